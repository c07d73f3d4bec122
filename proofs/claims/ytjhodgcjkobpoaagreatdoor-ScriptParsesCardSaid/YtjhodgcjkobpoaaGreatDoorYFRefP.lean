/- arrearsref18.Parse by hand: the document reads a line as script.parse does. Conditions: the tables stand as laid; the line's bytes are bytes. -/
import Derived.Test.YtjhodgcjkobpoaaGreatDoorYRefQ
import Derived.Deep.RegionHeld3
namespace Go.Proofs.YtjhodgcjkobpoaaGreatDoor.FRefP
open Go.RowKit Go.Proofs.YtjhodgcjkobpoaaGreatDoorW.PrintWords Go.Proofs.YtjhodgcjkobpoaaGreatDoorW.PrintLast Go.Proofs.YtjhodgcjkobpoaaGreatDoorW.PrintMore Go.Proofs.YtjhodgcjkobpoaaGreatDoor.PA Go.Proofs.YtjhodgcjkobpoaaGreatDoor.MB Go.Proofs.YtjhodgcjkobpoaaGreatDoor.MByt Go.Proofs.YtjhodgcjkobpoaaGreatDoor.FTell Go.Proofs.YtjhodgcjkobpoaaGreatDoor.FFields Go.Proofs.YtjhodgcjkobpoaaGreatDoor.FWhole Go.Proofs.YtjhodgcjkobpoaaGreatDoor.FRead Go.Proofs.YtjhodgcjkobpoaaGreatDoor.FReads Go.Proofs.YtjhodgcjkobpoaaGreatDoor.FKind Go.Proofs.YtjhodgcjkobpoaaGreatDoor.FFormat Go.Proofs.YtjhodgcjkobpoaaGreatDoor.FDec Go.Proofs.YtjhodgcjkobpoaaGreatDoor.FParse Go.Proofs.YtjhodgcjkobpoaaGreatDoor.FParse2 Go.Proofs.YtjhodgcjkobpoaaGreatDoor.FSp Go.Proofs.YtjhodgcjkobpoaaGreatDoor.FInv Go.Proofs.YtjhodgcjkobpoaaGreatDoor.RefQ
set_option linter.unusedVariables false
set_option linter.unusedSimpArgs false
theorem str_byts (s : ByteArray) : strOfNums (byts s) = s := byts_inj (byts_of (fun x hx => by
  obtain ⟨b, _, rfl⟩ := List.mem_map.1 hx
  have := b.toNat_lt
  exact ⟨Int.natCast_nonneg _, by omega⟩))
theorem fe_c (A0 : Option Addr) (c0 : Nat) (l0 : List Int) (i r : Int) (hf : ∃ k, arrearsref18_fieldEnd.f k l0 i = some r) (hc0 : l0.length ≤ c0) (w : World) (hr0 : Kd.C (Kd.int .u8) w A0 l0.length l0) :
    Calls Tryz.prog 17 #[.slice A0 l0.length c0, .int .i64 i] w fun e w' => e = .returned (.int .i64 r) ∧ Below w.heap.size w w' := by
  obtain ⟨k, hk⟩ := hf
  refine (arrearsref18_fieldEnd.calls k A0 c0 l0 i r w hr0 hc0 hk).mono ?_
  rintro e w' ⟨rfl, ⟨⟨nd, rfl⟩⟩⟩
  exact ⟨rfl, pw_below_drewN (Below.refl _ _) _⟩
theorem word_c (i : Int) (r : ByteArray) (hf : arrearsref18_word.f i = some r) (w : World) :
    Calls Tryz.prog 18 #[.int .i64 i] w fun e w' => e = .returned (.string r) ∧ Below w.heap.size w w' := by
  refine (arrearsref18_word.calls i r w hf).mono ?_
  rintro e w' ⟨rfl, ⟨⟨nd, rfl⟩⟩⟩
  exact ⟨rfl, pw_below_drewN (Below.refl _ _) _⟩
theorem shape_c (i : Int) (r : ByteArray) (hr : shapeB i = r) (w : World) :
    Calls Tryz.prog 19 #[.int .i64 i] w fun e w' => e = .returned (.string r) ∧ Below w.heap.size w w' := by
  subst hr
  refine (arrearsref18_shape.calls 10 i _ w (shape_ev i 10 (Nat.le_refl _))).mono ?_
  rintro e w' ⟨rfl, ⟨⟨nd, rfl⟩⟩⟩
  exact ⟨rfl, pw_below_drewN (Below.refl _ _) _⟩
theorem blanks_c (A0 : Option Addr) (c0 : Nat) (l0 : List Int) (r : Int) (hf : ∃ k, arrearsref18_blanks.f k l0 = some r) (hc0 : l0.length ≤ c0) (w : World) (hr0 : Kd.C (Kd.int .u8) w A0 l0.length l0) :
    Calls Tryz.prog 20 #[.slice A0 l0.length c0] w fun e w' => e = .returned (.int .i64 r) ∧ Below w.heap.size w w' := by
  obtain ⟨k, hk⟩ := hf
  refine (arrearsref18_blanks.calls k A0 c0 l0 r w hr0 hc0 hk).mono ?_
  rintro e w' ⟨rfl, ⟨⟨nd, rfl⟩⟩⟩
  exact ⟨rfl, pw_below_drewN (Below.refl _ _) _⟩
theorem load_event {ops : Array Oper} {rest : List Oper} {o : Oper} {a : Act} {Q : Exit → Act → World → Prop} {W : World} (hgd : o.guard = none) {p : Tmp} (ho : o.op = .load 25 (.tmp p)) {g : Nat} {cs : Array Value}
    (hx : a.eval (.tmp p) = .pointer (some ⟨g, 0, none⟩)) (hg : W.heap[g]? = some (.cells cs 25 (0, 0))) (hs : cs.size = 7) (h : wpList Tryz.prog ops Q rest (a.put o.dst (.agg cs)) W) : wpList Tryz.prog ops Q (o :: rest) a W :=
  wpList_load_row hgd 25 (.tmp p) ho g hx 25 cs (0, 0) _ hg Tryz.underlying25 rfl (by rw [hs]; kernel_rfl) h
theorem row_step {ops : Array Oper} {o : Oper} {a : Act} {Q : Exit → Act → World → Prop} {Kc : Act → World → Prop} {W : World} (hw : Region.wanted o (yielded ops a.tmps) = true) {p : Tmp} {v : Operand} {T : TypeId} (ho : o.op = .store T (.tmp p) v) (hN : o.dst = none) {g : Nat} {old : Array Value} (cs : Array Value) {T' : TypeId}
    (hx : a.eval (.tmp p) = .pointer (some ⟨g, 0, none⟩)) (hy : a.eval v = .agg cs) (hg : W.heap[g]? = some (.cells old T' (0, 0))) (hi : (Tryz.prog.info? T).map (·.size) = some cs.size) (hold : old.size = cs.size) (h1 : cs.all (·.oneCell') = true)
    (h : ∀ w', w'.heap[g]? = some (.cells cs T' (0, 0)) → Tz g W w' → Kc a w') : if Region.wanted o (yielded ops a.tmps) = true then Oper.wp Tryz.prog o a W Kc Q else Kc (a.put o.dst undef) W := by
  rw [if_pos hw]
  refine wp_store_row T (.tmp p) v ho g cs hx hy T' old hg hi hold h1 ?_
  rw [hN]
  refine h _ (setRow_heap W g old cs T' (0, 0) hg) ⟨rfl, rfl, rfl, ?_, fun i hi hne => setRow_other W g i cs hne⟩
  rw [size_setRow]
  exact Nat.le_refl _
/-- The words behind the first one, each with its blank. -/
def fm (ws : List ByteArray) : List Int := ws.flatMap fun w => 32 :: byts w
theorem fm_cons (w : ByteArray) (ws : List ByteArray) : fm (w :: ws) = 32 :: (byts w ++ fm ws) := rfl
theorem byts_no {w : ByteArray} (h : (32 : UInt8) ∉ w.data.toList) : ∀ c ∈ byts w, c ≠ 32 := fun c hc e => by
  subst e
  obtain ⟨b, hb, e⟩ := List.mem_map.1 hc
  have : b = 32 := u8_inj e
  exact h (this ▸ hb)
theorem fm_words {s w0 : ByteArray} {ws : List ByteArray} (h : wordsOf s = w0 :: ws) : byts s = byts w0 ++ fm ws := by
  have h1 := (words_back h).1
  unfold byts
  rw [h1]
  unfold jn fm
  rw [List.map_append, List.map_flatMap, List.flatMap_map]
  rfl
theorem fm_upto {L b : List Int} {i : Nat} {ws : List ByteArray} (hd : L.drop i = b ++ fm ws) (hi : i ≤ L.length) (hb : ∀ c ∈ b, c ≠ 32) : Upto L i b ∧ L.drop (i + b.length) = fm ws ∧ i + b.length ≤ L.length := by
  have hl := congrArg List.length hd
  rw [List.length_drop, List.length_append] at hl
  have h2 : L.drop (i + b.length) = fm ws := by rw [← List.drop_drop, hd, List.drop_left]
  refine ⟨⟨by rw [hd, List.take_left], by omega, hb, ?_⟩, h2, by omega⟩
  cases ws with
  | nil =>
    left
    have : (fm []).length = 0 := rfl
    omega
  | cons w ws =>
    right
    rw [fm_cons] at h2
    have h3 : i + b.length < L.length := by
      have := congrArg List.length h2
      rw [List.length_drop, List.length_cons] at this
      omega
    rw [List.drop_eq_getElem_cons h3] at h2
    injection h2 with h4 _
    rw [List.getD_eq_getElem?_getD, List.getElem?_eq_getElem h3]
    exact h4
theorem fm_next {L : List Int} {e : Nat} {w : ByteArray} {ws : List ByteArray} (hd : L.drop e = fm (w :: ws)) (he : e ≤ L.length) : L.drop (e + 1) = byts w ++ fm ws ∧ e + 1 ≤ L.length := by
  rw [fm_cons] at hd
  have h := congrArg List.length hd
  rw [List.length_drop, List.length_cons] at h
  refine ⟨?_, by omega⟩
  rw [← List.drop_drop, hd]
  rfl
theorem fm_count : ∀ ws : List ByteArray, (∀ w ∈ ws, (32 : UInt8) ∉ w.data.toList) → (fm ws).count 32 = ws.length
  | [], _ => rfl
  | w :: ws, h => by
    rw [fm_cons, List.count_cons_self, List.count_append, fm_count ws (fun v hv => h v (List.mem_cons_of_mem _ hv)), List.count_eq_zero.2 (fun m => byts_no (h w (List.mem_cons_self ..)) 32 m rfl), List.length_cons]
    omega
theorem word_at (x : Int) (h0 : 1 ≤ x) (h1 : x ≤ 21) : arrearsref18_word.f x = some (nameAt x) := (word_in x h0 h1).1
theorem info_u8 : (Tryz.prog.info? 5).map (·.size) = some 1 := by kernel_rfl
/-- A cut of the line told as a text. -/
theorem cut_text (A0 : Option Addr) (c0 : Nat) (l0 : List Int) (wd : ByteArray) (lo hi : Int) (w : World) (hr0 : Kd.C (Kd.int .u8) w A0 l0.length l0) (hc0 : l0.length ≤ c0) (h0 : 0 ≤ lo) (h1 : lo ≤ hi) (h2 : hi ≤ l0.length) (hw : (l0.drop lo.toNat).take (hi.toNat - lo.toNat) = byts wd) :
    ∃ (A : Option Addr) (n c : Nat), (∀ W : World, (Instr.slice 22 (.slice A0 l0.length c0) (some (.int .i64 lo)) (some (.int .i64 hi)) none).run Tryz.prog W = .ok (.slice A n c) W) ∧ ∀ W, Below w.heap.size w W → (convert 22 9 (.slice A n c)).run Tryz.prog W = .ok (.string wd) W := by
  obtain ⟨i, hi1, hi2⟩ := Option.map_eq_some_iff.1 info_u8
  refine ⟨_, _, _, cut_mid 22 5 .i64 .i64 Tryz.underlying22 hi1 1 hi2 A0 l0.length c0 lo hi h0 h1 h2 hc0, fun W hb => ?_⟩
  have hd := Kd.C_drop hr0 (m := lo.toNat) (c := c0) (by omega) hc0
  have ht := Kd.C_take hd (m := hi.toNat - lo.toNat) (by rw [List.length_drop]; omega)
  have hl : (((l0.drop lo.toNat).take (hi.toNat - lo.toNat))).length = hi.toNat - lo.toNat := by rw [List.length_take, List.length_drop]; omega
  have hs := Kd.C_string (src := 22) (dst := 9) (e := 5) (c := c0 - lo.toNat) Tryz.underlying22 Tryz.underlying5 Tryz.underlying9 (Kd.C_below ht hb)
  rw [hw, str_byts] at hs
  rw [hw] at hl
  rw [hl] at hs
  exact hs
theorem cut_first (A0 : Option Addr) (c0 : Nat) (l0 : List Int) (wd : ByteArray) (hi : Int) (w : World) (hr0 : Kd.C (Kd.int .u8) w A0 l0.length l0) (hc0 : l0.length ≤ c0) (h1 : 0 ≤ hi) (h2 : hi ≤ l0.length) (hw : l0.take hi.toNat = byts wd) :
    ∃ (n : Nat), (∀ W : World, (Instr.slice 22 (.slice A0 l0.length c0) none (some (.int .i64 hi)) none).run Tryz.prog W = .ok (.slice A0 n c0) W) ∧ ∀ W, Below w.heap.size w W → (convert 22 9 (.slice A0 n c0)).run Tryz.prog W = .ok (.string wd) W := by
  obtain ⟨i, hi1, hi2⟩ := Option.map_eq_some_iff.1 info_u8
  refine ⟨_, cut_to 22 5 .i64 Tryz.underlying22 hi1 A0 l0.length c0 hi h1 h2 hc0, fun W hb => ?_⟩
  have ht := Kd.C_take hr0 (m := hi.toNat) (by omega)
  have hl : (l0.take hi.toNat).length = hi.toNat := by rw [List.length_take]; omega
  have hs := Kd.C_string (src := 22) (dst := 9) (e := 5) (c := c0) Tryz.underlying22 Tryz.underlying5 Tryz.underlying9 (Kd.C_below ht hb)
  rw [hw, str_byts] at hs
  rw [hw] at hl
  rw [hl] at hs
  exact hs
set_option maxHeartbeats 8000000 in
set_option maxRecDepth 100000 in
theorem ref_long (A0 : Option Addr) (c0 : Nat) (l0 : List Int) (hc0 : l0.length ≤ c0) (w : World) (hr0 : Kd.C (Kd.int .u8) w A0 l0.length l0) (hrP : PowAt w) (hz : 100 < l0.length) : Calls Tryz.prog 7 #[.slice A0 l0.length c0] w fun e w' => e = .returned (.tuple #[.agg #[.int .i64 0, .int .i64 0, .int .i64 0, .int .i64 0, .int .i64 0, .int .i64 0, .string ⟨#[]⟩], .int .i64 1, .int .i64 0]) ∧ Below w.heap.size w w' := by
  have hu := Tryz.underlying25
  have HB := Aside0.mk (Below.refl w.heap.size w)
  have HRP := Aside0.mk hrP
  have HR0 := Aside0.mk hr0
  have HC0 := Aside0.mk hc0
  have z1 : decide ((l0.length : Int) > 100) = true := decide_eq_true (by omega)
  have z2 : decide (100 < l0.length) = true := decide_eq_true hz
  clear hz hr0 hrP hc0
  go_enter Tryz.func7, Tryz.ntmps7
  go_wp2_with (first | ((with_reducible refine gate_dst (N := 2) rfl ?_); refine box_event ?hg (N := 2) ?hd (cs := #[.int .i64 0, .int .i64 0, .int .i64 0, .int .i64 0, .int .i64 0, .int .i64 0, .string ⟨#[]⟩]) (t := 25) ?hr ?_; (case hd => rfl); (case hg => rfl); (case hr => first | (go_simp; done) | (go_simp; rfl)); intro gb hg w3 hbox hb; have n0_ := Aside0.mk (hg ▸ below_size (by repeat (first | (with_reducible first | exact HB.out | apply below_alloc | apply pw_below_drewN | apply below_drew1) | exact HB.out)) : w.heap.size ≤ gb); have n1_ := Aside0.mk (hbox); have n2_ := Aside0.mk (below_step (by repeat (first | (with_reducible first | exact HB.out | apply below_alloc | apply pw_below_drewN | apply below_drew1) | exact HB.out)) hb); clear HB hb hbox; have GK := n0_; have BK := n1_; have HB := n2_; clear n0_ n1_ n2_; clear hg) | ((with_reducible refine gate_dst (N := 5) rfl ?_); refine box_event ?hg (N := 5) ?hd (cs := #[.int .i64 0, .int .i64 0, .int .i64 0, .int .i64 0, .int .i64 0, .int .i64 0, .string ⟨#[]⟩]) (t := 25) ?hr ?_; (case hd => rfl); (case hg => rfl); (case hr => first | (go_simp; done) | (go_simp; rfl)); intro gn hg w3 hbox hb; have n0_ := Aside0.mk (hg ▸ below_size (by repeat (first | (with_reducible first | exact HB.out | apply below_alloc | apply pw_below_drewN | apply below_drew1) | exact HB.out)) : w.heap.size ≤ gn); have n1_ := Aside0.mk (blk_below BK.out hb); have n2_ := Aside0.mk (hg ▸ (Nat.ne_of_gt (blk_lt BK.out)) : gn ≠ gb); have n3_ := Aside0.mk (hbox); have n4_ := Aside0.mk (below_step (by repeat (first | (with_reducible first | exact HB.out | apply below_alloc | apply pw_below_drewN | apply below_drew1) | exact HB.out)) hb); clear BK HB hb hbox; have GN := n0_; have BK := n1_; have NN := n2_; have BN := n3_; have HB := n4_; clear n0_ n1_ n2_ n3_ n4_; clear hg) | ((with_reducible refine gate_dst (N := 18) rfl ?_); refine load_event rfl (p := 5) rfl (g := gn) (cs := #[.int .i64 0, .int .i64 0, .int .i64 0, .int .i64 0, .int .i64 0, .int .i64 0, .string ⟨#[]⟩]) rfl BN.out rfl ?_) | ((with_reducible refine gate_store (p := 2) rfl ?_); refine row_event rfl rfl rfl (g := gb) #[.int .i64 0, .int .i64 0, .int .i64 0, .int .i64 0, .int .i64 0, .int .i64 0, .string ⟨#[]⟩] rfl ?hy BK.out Zcs_info rfl (one_cells _ _ _ _ _ _ _) ?_; (case hy => first | rfl | (go_simp; done) | (go_simp; rfl)); intro w4 hrow ht; have n0_ := Aside0.mk (hrow); have n1_ := Aside0.mk (ht.below HB.out GK.out (below_size HB.out)); clear BK HB hrow ht; have BK := n0_; have HB := n1_; clear n0_ n1_))
  ((try simp only [Exit.inBlock, Exit.then]); refine bodyPost_ret (ret_cell_tmp2 rfl _ _ gb _ rfl BK.out rfl) rfl ?_)
  exact ⟨rfl, HB.out⟩
theorem first_cut {l0 : List Int} {w0 : ByteArray} {ws : List ByteArray} (hw : wordsOf (strOfNums l0) = w0 :: ws) (hby : ∀ x ∈ l0, 0 ≤ x ∧ x ≤ 255) : l0.take w0.size = byts w0 ∧ (w0.size : Int) ≤ l0.length := by
  have h := fm_words hw
  rw [byts_of hby] at h
  rw [h]
  refine ⟨by rw [← byts_len w0, List.take_left], ?_⟩
  rw [List.length_append, byts_len]
  omega
theorem first_end {l0 : List Int} {w0 : ByteArray} {ws : List ByteArray} (hw : wordsOf (strOfNums l0) = w0 :: ws) (hby : ∀ x ∈ l0, 0 ≤ x ∧ x ≤ 255) (hl : l0.length ≤ 1000000) : ∃ k, arrearsref18_fieldEnd.f k l0 0 = some ((w0.size : Nat) : Int) := by
  have h := fm_words hw
  rw [byts_of hby] at h
  have hn := (words_back hw).2 w0 (List.mem_cons_self ..)
  have hu := (fm_upto (L := l0) (i := 0) (b := byts w0) (ws := ws) (by rw [List.drop_zero]; exact h) (Nat.zero_le _) (byts_no hn.1)).1
  refine ⟨(byts w0).length + 1, ?_⟩
  unfold arrearsref18_fieldEnd.f
  have := fieldEnd_at l0 hl (byts w0) 0 ((byts w0).length + 1) hu (Nat.lt_succ_self _)
  rw [Nat.zero_add, byts_len] at this
  rw [byts_len]
  exact this
theorem kind_first {w0 : ByteArray} {kd : Int} (hk : kindP w0 = kd) : (if kd < 1 then kd else 0) = (0 : Int) := by
  split
  · by_cases h : kd = 0
    · exact h
    · have := kind_back (s := w0) (by rw [hk]; exact h)
      omega
  · rfl
theorem kind_hit {w0 : ByteArray} {kd i : Int} (hk : kindP w0 = kd) (h0 : 1 ≤ i) (h1 : i ≤ 21) (he : (nameAt i).toList = w0.toList) : i = if kd < i + 1 then kd else 0 := by
  have h := (kind_name i h0 h1).1
  rw [FAmt.text_inj he, hk] at h
  rw [if_pos (by omega)]
  exact h.symm
theorem kind_miss {w0 : ByteArray} {kd i kv : Int} (hk : kindP w0 = kd) (h0 : 1 ≤ i) (h1 : i ≤ 21) (he : ¬ (nameAt i).toList = w0.toList) (hv : kv = if kd < i then kd else 0) : kv = if kd < i + 1 then kd else 0 := by
  have h : kd ≠ i := fun e => by
    have := kind_back (s := w0) (by rw [hk]; omega)
    rw [hk, e] at this
    exact he (by rw [this.2.2])
  rw [hv]
  by_cases h2 : kd < i
  · rw [if_pos h2, if_pos (by omega)]
  · rw [if_neg h2, if_neg (by omega)]
theorem kind_end {w0 : ByteArray} {kd i kv : Int} (hk : kindP w0 = kd) (h0 : 1 ≤ i) (h1 : ¬ i ≤ 21) (hv : kv = if kd < i then kd else 0) : kv = kd := by
  rw [hv]
  by_cases h : kd = 0
  · subst h
    split <;> rfl
  · have := kind_back (s := w0) (by rw [hk]; exact h)
    rw [if_pos (by omega)]
theorem wrap_i {i : Int} (h0 : 1 ≤ i) (h1 : i ≤ 21) : wrap64 (i + 1) = i + 1 := by unfold wrap64; omega
theorem left_i {i : Int} {k : Nat} (h : 1 ≤ i ∧ i + k = 22) (h1 : i ≤ 21) : (21 - i).toNat < k := by omega
theorem left_i2 {i : Int} {k : Nat} (h : 1 ≤ i ∧ i + k = 22) (h1 : i ≤ 21) : 1 ≤ i + 1 ∧ i + 1 + ((21 - i).toNat : Int) = 22 := by omega
set_option maxHeartbeats 8000000 in
set_option maxRecDepth 100000 in
theorem ref_none (A0 : Option Addr) (c0 : Nat) (l0 : List Int) (hc0 : l0.length ≤ c0) (w : World) (hr0 : Kd.C (Kd.int .u8) w A0 l0.length l0) (hrP : PowAt w) (w0 : ByteArray) (ws : List ByteArray) (kd : Int) (hz : ¬ 100 < l0.length) (hw : wordsOf (strOfNums l0) = w0 :: ws) (hby : ∀ x ∈ l0, 0 ≤ x ∧ x ≤ 255) (hk : kindP w0 = kd) (hk0 : kd = 0) : Calls Tryz.prog 7 #[.slice A0 l0.length c0] w fun e w' => e = .returned (.tuple #[.agg #[.int .i64 0, .int .i64 0, .int .i64 0, .int .i64 0, .int .i64 0, .int .i64 0, .string ⟨#[]⟩], .int .i64 180, .int .i64 0]) ∧ Below w.heap.size w w' := by
  have hu := Tryz.underlying25
  have HB := Aside0.mk (Below.refl w.heap.size w)
  have HRP := Aside0.mk hrP
  have HR0 := Aside0.mk hr0
  have HC0 := Aside0.mk hc0
  have z1 : decide ((l0.length : Int) > 100) = false := decide_eq_false (by omega)
  have z2 : decide (100 < l0.length) = false := decide_eq_false hz
  have hlz : (l0.length : Int) ≤ 100 := by omega
  obtain ⟨en, hen⟩ : ∃ en : Int, en = ((w0.size : Nat) : Int) := ⟨_, rfl⟩
  have HEN := Aside0.mk hen
  have hfirst := first_cut hw hby
  have HFE : Aside0 (∃ k, arrearsref18_fieldEnd.f k l0 0 = some en) := ⟨by rw [hen]; exact first_end hw hby (by omega)⟩
  obtain ⟨n0, hcut0, hcv0⟩ := cut_first A0 c0 l0 w0 en w hr0 hc0 (by omega) (by rw [hen]; exact hfirst.2) (by rw [hen, Int.toNat_natCast]; exact hfirst.1)
  have HCV0 := Aside0.mk hcv0
  have HK := Aside0.mk hk
  have HWS := Aside0.mk hw
  have HBY := Aside0.mk hby
  clear hcv0 hr0 hrP hc0 hz hfirst hen hk hw hby
  go_enter Tryz.func7, Tryz.ntmps7
  go_wp2_with (first | ((with_reducible refine gate_dst (N := 2) rfl ?_); refine box_event ?hg (N := 2) ?hd (cs := #[.int .i64 0, .int .i64 0, .int .i64 0, .int .i64 0, .int .i64 0, .int .i64 0, .string ⟨#[]⟩]) (t := 25) ?hr ?_; (case hd => rfl); (case hg => rfl); (case hr => first | (go_simp; done) | (go_simp; rfl)); intro gb hg w3 hbox hb; have n0_ := Aside0.mk (hg ▸ below_size (by repeat (first | (with_reducible first | exact HB.out | apply below_alloc | apply pw_below_drewN | apply below_drew1) | exact HB.out)) : w.heap.size ≤ gb); have n1_ := Aside0.mk (hbox); have n2_ := Aside0.mk (below_step (by repeat (first | (with_reducible first | exact HB.out | apply below_alloc | apply pw_below_drewN | apply below_drew1) | exact HB.out)) hb); clear HB hb hbox; have GK := n0_; have BK := n1_; have HB := n2_; clear n0_ n1_ n2_; clear hg) | ((with_reducible refine gate_dst (N := 5) rfl ?_); refine box_event ?hg (N := 5) ?hd (cs := #[.int .i64 0, .int .i64 0, .int .i64 0, .int .i64 0, .int .i64 0, .int .i64 0, .string ⟨#[]⟩]) (t := 25) ?hr ?_; (case hd => rfl); (case hg => rfl); (case hr => first | (go_simp; done) | (go_simp; rfl)); intro gn hg w3 hbox hb; have n0_ := Aside0.mk (hg ▸ below_size (by repeat (first | (with_reducible first | exact HB.out | apply below_alloc | apply pw_below_drewN | apply below_drew1) | exact HB.out)) : w.heap.size ≤ gn); have n1_ := Aside0.mk (blk_below BK.out hb); have n2_ := Aside0.mk (hg ▸ (Nat.ne_of_gt (blk_lt BK.out)) : gn ≠ gb); have n3_ := Aside0.mk (hbox); have n4_ := Aside0.mk (below_step (by repeat (first | (with_reducible first | exact HB.out | apply below_alloc | apply pw_below_drewN | apply below_drew1) | exact HB.out)) hb); clear BK HB hb hbox; have GN := n0_; have BK := n1_; have NN := n2_; have BN := n3_; have HB := n4_; clear n0_ n1_ n2_ n3_ n4_; clear hg) | (go_at_call 17; (with_reducible refine (fe_c A0 c0 l0 0 en HFE.out HC0.out _ (Kd.C_below HR0.out (by repeat (first | (with_reducible first | exact HB.out | apply below_alloc | apply pw_below_drewN | apply below_drew1) | exact HB.out)))).mono ?_); rintro e w5 ⟨rfl, hb⟩; have n0_ := Aside0.mk (blk_below (by (with_reducible repeat (first | refine blk_drewN ?_ _ | refine blk_drew ?_ | refine blk_alloc ?_ _)); exact BK.out) hb); have n1_ := Aside0.mk (blk_below (by (with_reducible repeat (first | refine blk_drewN ?_ _ | refine blk_drew ?_ | refine blk_alloc ?_ _)); exact BN.out) hb); have n2_ := Aside0.mk (below_step (by repeat (first | (with_reducible first | exact HB.out | apply below_alloc | apply pw_below_drewN | apply below_drew1) | exact HB.out)) hb); clear BK BN HB hb; have BK := n0_; have BN := n1_; have HB := n2_; clear n0_ n1_ n2_))
  go_loopg [7, 8] 21 (fun kq v7 v8 w' => ∃ (i : Int) (kv : Int), v8 = .int .i64 i ∧ v7 = .int .i64 kv ∧ Aside0 (1 ≤ i ∧ i + kq = 22) ∧ Aside0 (kv = if kd < i then kd else 0) ∧ Aside0 (w'.heap[gb]? = some (.cells #[.int .i64 0, .int .i64 0, .int .i64 0, .int .i64 0, .int .i64 0, .int .i64 0, .string ⟨#[]⟩] 25 (0, 0))) ∧ Aside0 (w'.heap[gn]? = some (.cells #[.int .i64 0, .int .i64 0, .int .i64 0, .int .i64 0, .int .i64 0, .int .i64 0, .string ⟨#[]⟩] 25 (0, 0))) ∧ Aside0 (Below w.heap.size w w'))
  case atStart => exact ⟨1, 0, rfl, rfl, ⟨⟨by decide, by decide⟩⟩, ⟨(kind_first HK.out).symm⟩, BK, BN, HB⟩
  case round =>
    obtain ⟨i, kv, rfl, rfl, HI, HKV, BK, BN, HB⟩ := hrel
    by_cases hx : i ≤ 21
    · have le1 : decide (i ≤ 21) = true := decide_eq_true hx
      have HX := Aside0.mk hx
      have HWD := Aside0.mk (word_at i HI.out.1 hx)
      obtain ⟨nm, hnm⟩ : ∃ nm, nm = nameAt i := ⟨_, rfl⟩
      rw [← hnm] at HWD
      have hw1 : wrap64 (i + 1) = i + 1 := wrap_i HI.out.1 hx
      by_cases he : nm.toList = w0.toList
      · have q1 : (nm.toList == w0.toList) = true := beq_iff_eq.2 he
        have HV : Aside0 (i = if kd < i + 1 then kd else 0) := ⟨kind_hit HK.out HI.out.1 hx (hnm ▸ he)⟩
        clear he hnm hx
        go_upto_region 9 with fail
        go_region_held3 (fun w' => (convert 22 9 (.slice A0 n0 c0)).run Tryz.prog w' = .ok (.string w0) w') (first | exact HCV0.out _ (by repeat (first | (with_reducible first | exact HB.out | apply below_alloc | apply pw_below_drewN | apply below_drew1) | exact HB.out)) | go_keep) ((go_at_call 18; (with_reducible refine (word_c i nm HWD.out _).mono ?_); rintro e w5 ⟨rfl, hb⟩; have n0_ := Aside0.mk (blk_below (by (with_reducible repeat (first | refine blk_drewN ?_ _ | refine blk_drew ?_ | refine blk_alloc ?_ _)); exact BK.out) hb); have n1_ := Aside0.mk (blk_below (by (with_reducible repeat (first | refine blk_drewN ?_ _ | refine blk_drew ?_ | refine blk_alloc ?_ _)); exact BN.out) hb); have n2_ := Aside0.mk (below_step (by repeat (first | (with_reducible first | exact HB.out | apply below_alloc | apply pw_below_drewN | apply below_drew1) | exact HB.out)) hb); clear BK BN HB hb; have BK := n0_; have BN := n1_; have HB := n2_; clear n0_ n1_ n2_))
        all_goals go_wp2
        all_goals go_roundg (21 - i).toNat
        all_goals first | exact left_i HI.out HX.out | exact ⟨i + 1, i, (by first | rfl | (simp; done) | go_num | (simp [*]; done)), rfl, ⟨left_i2 HI.out HX.out⟩, HV, BK, BN, HB⟩
      · have q1 : (nm.toList == w0.toList) = false := beq_eq_false_iff_ne.2 he
        have HV : Aside0 (kv = if kd < i + 1 then kd else 0) := ⟨kind_miss HK.out HI.out.1 hx (hnm ▸ he) HKV.out⟩
        clear he hnm hx
        go_upto_region 9 with fail
        go_region_held3 (fun w' => (convert 22 9 (.slice A0 n0 c0)).run Tryz.prog w' = .ok (.string w0) w') (first | exact HCV0.out _ (by repeat (first | (with_reducible first | exact HB.out | apply below_alloc | apply pw_below_drewN | apply below_drew1) | exact HB.out)) | go_keep) ((go_at_call 18; (with_reducible refine (word_c i nm HWD.out _).mono ?_); rintro e w5 ⟨rfl, hb⟩; have n0_ := Aside0.mk (blk_below (by (with_reducible repeat (first | refine blk_drewN ?_ _ | refine blk_drew ?_ | refine blk_alloc ?_ _)); exact BK.out) hb); have n1_ := Aside0.mk (blk_below (by (with_reducible repeat (first | refine blk_drewN ?_ _ | refine blk_drew ?_ | refine blk_alloc ?_ _)); exact BN.out) hb); have n2_ := Aside0.mk (below_step (by repeat (first | (with_reducible first | exact HB.out | apply below_alloc | apply pw_below_drewN | apply below_drew1) | exact HB.out)) hb); clear BK BN HB hb; have BK := n0_; have BN := n1_; have HB := n2_; clear n0_ n1_ n2_))
        all_goals go_wp2
        all_goals go_roundg (21 - i).toNat
        all_goals first | exact left_i HI.out HX.out | exact ⟨i + 1, kv, (by first | rfl | (simp; done) | go_num | (simp [*]; done)), rfl, ⟨left_i2 HI.out HX.out⟩, HV, BK, BN, HB⟩
    · have le1 : decide (i ≤ 21) = false := decide_eq_false hx
      have hkd : kv = kd := kind_end HK.out HI.out.1 hx HKV.out
      rw [hkd]
      clear hkd
      clear hx HKV
      subst hk0
      go_wp2_with (first | ((with_reducible refine gate_dst (N := 35) rfl ?_); refine load_event rfl (p := 5) rfl (g := gn) (cs := #[.int .i64 0, .int .i64 0, .int .i64 0, .int .i64 0, .int .i64 0, .int .i64 0, .string ⟨#[]⟩]) rfl BN.out rfl ?_) | ((with_reducible refine gate_store (p := 2) rfl ?_); refine row_event rfl rfl rfl (g := gb) #[.int .i64 0, .int .i64 0, .int .i64 0, .int .i64 0, .int .i64 0, .int .i64 0, .string ⟨#[]⟩] rfl ?hy BK.out Zcs_info rfl (one_cells _ _ _ _ _ _ _) ?_; (case hy => first | rfl | (go_simp; done) | (go_simp; rfl)); intro w4 hrow ht; have n0_ := Aside0.mk (hrow); have n1_ := Aside0.mk (ht.below HB.out GK.out (below_size HB.out)); clear BK HB hrow ht; have BK := n0_; have HB := n1_; clear n0_ n1_))
      ((try simp only [Exit.inBlock, Exit.then]); refine bodyPost_ret (ret_cell_tmp2 rfl _ _ gb _ rfl BK.out rfl) rfl ?_)
      exact ⟨rfl, HB.out⟩
theorem shapeB_size (k : Int) : (shapeB k).size = (shapeL k).length := by
  have := congrArg List.length (shapeB_byts k)
  rw [byts_len, List.length_map] at this
  exact this
theorem blanks_words {l0 : List Int} {w0 : ByteArray} {ws : List ByteArray} (hw : wordsOf (strOfNums l0) = w0 :: ws) (hby : ∀ x ∈ l0, 0 ≤ x ∧ x ≤ 255) (hl : l0.length ≤ 1000000) : ∃ k, arrearsref18_blanks.f k l0 = some (ws.length : Int) := by
  have h := fm_words hw
  rw [byts_of hby] at h
  have hn := (words_back hw).2
  refine ⟨l0.length + 1, ?_⟩
  have hb := blanks_at l0 hl l0.length 0 0 (l0.length + 1) (by omega) (Nat.lt_succ_self _) (Nat.le_refl _)
  unfold arrearsref18_blanks.f
  rw [show (0 : Int) = ((0 : Nat) : Int) from rfl, hb, List.drop_zero, Nat.zero_add]
  congr 2
  rw [h, List.count_append, fm_count ws (fun w hm => (hn w (List.mem_cons_of_mem _ hm)).1), List.count_eq_zero.2 (fun m => byts_no (hn w0 (List.mem_cons_self ..)).1 32 m rfl), Nat.zero_add]
set_option maxHeartbeats 8000000 in
set_option maxRecDepth 100000 in
theorem ref_fields (A0 : Option Addr) (c0 : Nat) (l0 : List Int) (hc0 : l0.length ≤ c0) (w : World) (hr0 : Kd.C (Kd.int .u8) w A0 l0.length l0) (hrP : PowAt w) (w0 : ByteArray) (ws : List ByteArray) (kd : Int) (hz : ¬ 100 < l0.length) (hw : wordsOf (strOfNums l0) = w0 :: ws) (hby : ∀ x ∈ l0, 0 ≤ x ∧ x ≤ 255) (hk : kindP w0 = kd) (ls : List Nat) (hk0 : kd ≠ 0) (hls : shapeL kd = ls) (hlen : ws.length ≠ ls.length) : Calls Tryz.prog 7 #[.slice A0 l0.length c0] w fun e w' => e = .returned (.tuple #[.agg #[.int .i64 0, .int .i64 0, .int .i64 0, .int .i64 0, .int .i64 0, .int .i64 0, .string ⟨#[]⟩], .int .i64 181, .int .i64 l0.length]) ∧ Below w.heap.size w w' := by
  have hu := Tryz.underlying25
  have HB := Aside0.mk (Below.refl w.heap.size w)
  have HRP := Aside0.mk hrP
  have HR0 := Aside0.mk hr0
  have HC0 := Aside0.mk hc0
  have HKD := Aside0.mk hk0
  have hk1 : (kd == 0) = false := beq_eq_false_iff_ne.2 hk0
  obtain ⟨sb, hsb⟩ : ∃ sb, shapeB kd = sb := ⟨_, rfl⟩
  have HSB := Aside0.mk hsb
  have HSS : Aside0 (sb.size = ls.length) := ⟨by rw [← hsb, ← hls]; exact shapeB_size kd⟩
  have HBL : Aside0 (∃ k, arrearsref18_blanks.f k l0 = some (ws.length : Int)) := ⟨blanks_words hw hby (by omega)⟩
  have HLS := Aside0.mk hls
  have HLEN := Aside0.mk hlen
  have z1 : decide ((l0.length : Int) > 100) = false := decide_eq_false (by omega)
  have z2 : decide (100 < l0.length) = false := decide_eq_false hz
  have hlz : (l0.length : Int) ≤ 100 := by omega
  obtain ⟨en, hen⟩ : ∃ en : Int, en = ((w0.size : Nat) : Int) := ⟨_, rfl⟩
  have HEN := Aside0.mk hen
  have hfirst := first_cut hw hby
  have HFE : Aside0 (∃ k, arrearsref18_fieldEnd.f k l0 0 = some en) := ⟨by rw [hen]; exact first_end hw hby (by omega)⟩
  obtain ⟨n0, hcut0, hcv0⟩ := cut_first A0 c0 l0 w0 en w hr0 hc0 (by omega) (by rw [hen]; exact hfirst.2) (by rw [hen, Int.toNat_natCast]; exact hfirst.1)
  have HCV0 := Aside0.mk hcv0
  have HK := Aside0.mk hk
  have HWS := Aside0.mk hw
  have HBY := Aside0.mk hby
  clear hcv0 hr0 hrP hc0 hz hfirst hen hk hw hby
  clear hls hlen hsb hk0
  go_enter Tryz.func7, Tryz.ntmps7
  go_wp2_with (first | ((with_reducible refine gate_dst (N := 2) rfl ?_); refine box_event ?hg (N := 2) ?hd (cs := #[.int .i64 0, .int .i64 0, .int .i64 0, .int .i64 0, .int .i64 0, .int .i64 0, .string ⟨#[]⟩]) (t := 25) ?hr ?_; (case hd => rfl); (case hg => rfl); (case hr => first | (go_simp; done) | (go_simp; rfl)); intro gb hg w3 hbox hb; have n0_ := Aside0.mk (hg ▸ below_size (by repeat (first | (with_reducible first | exact HB.out | apply below_alloc | apply pw_below_drewN | apply below_drew1) | exact HB.out)) : w.heap.size ≤ gb); have n1_ := Aside0.mk (hbox); have n2_ := Aside0.mk (below_step (by repeat (first | (with_reducible first | exact HB.out | apply below_alloc | apply pw_below_drewN | apply below_drew1) | exact HB.out)) hb); clear HB hb hbox; have GK := n0_; have BK := n1_; have HB := n2_; clear n0_ n1_ n2_; clear hg) | ((with_reducible refine gate_dst (N := 5) rfl ?_); refine box_event ?hg (N := 5) ?hd (cs := #[.int .i64 0, .int .i64 0, .int .i64 0, .int .i64 0, .int .i64 0, .int .i64 0, .string ⟨#[]⟩]) (t := 25) ?hr ?_; (case hd => rfl); (case hg => rfl); (case hr => first | (go_simp; done) | (go_simp; rfl)); intro gn hg w3 hbox hb; have n0_ := Aside0.mk (hg ▸ below_size (by repeat (first | (with_reducible first | exact HB.out | apply below_alloc | apply pw_below_drewN | apply below_drew1) | exact HB.out)) : w.heap.size ≤ gn); have n1_ := Aside0.mk (blk_below BK.out hb); have n2_ := Aside0.mk (hg ▸ (Nat.ne_of_gt (blk_lt BK.out)) : gn ≠ gb); have n3_ := Aside0.mk (hbox); have n4_ := Aside0.mk (below_step (by repeat (first | (with_reducible first | exact HB.out | apply below_alloc | apply pw_below_drewN | apply below_drew1) | exact HB.out)) hb); clear BK HB hb hbox; have GN := n0_; have BK := n1_; have NN := n2_; have BN := n3_; have HB := n4_; clear n0_ n1_ n2_ n3_ n4_; clear hg) | (go_at_call 17; (with_reducible refine (fe_c A0 c0 l0 0 en HFE.out HC0.out _ (Kd.C_below HR0.out (by repeat (first | (with_reducible first | exact HB.out | apply below_alloc | apply pw_below_drewN | apply below_drew1) | exact HB.out)))).mono ?_); rintro e w5 ⟨rfl, hb⟩; have n0_ := Aside0.mk (blk_below (by (with_reducible repeat (first | refine blk_drewN ?_ _ | refine blk_drew ?_ | refine blk_alloc ?_ _)); exact BK.out) hb); have n1_ := Aside0.mk (blk_below (by (with_reducible repeat (first | refine blk_drewN ?_ _ | refine blk_drew ?_ | refine blk_alloc ?_ _)); exact BN.out) hb); have n2_ := Aside0.mk (below_step (by repeat (first | (with_reducible first | exact HB.out | apply below_alloc | apply pw_below_drewN | apply below_drew1) | exact HB.out)) hb); clear BK BN HB hb; have BK := n0_; have BN := n1_; have HB := n2_; clear n0_ n1_ n2_))
  go_loopg [7, 8] 21 (fun kq v7 v8 w' => ∃ (i : Int) (kv : Int), v8 = .int .i64 i ∧ v7 = .int .i64 kv ∧ Aside0 (1 ≤ i ∧ i + kq = 22) ∧ Aside0 (kv = if kd < i then kd else 0) ∧ Aside0 (w'.heap[gb]? = some (.cells #[.int .i64 0, .int .i64 0, .int .i64 0, .int .i64 0, .int .i64 0, .int .i64 0, .string ⟨#[]⟩] 25 (0, 0))) ∧ Aside0 (w'.heap[gn]? = some (.cells #[.int .i64 0, .int .i64 0, .int .i64 0, .int .i64 0, .int .i64 0, .int .i64 0, .string ⟨#[]⟩] 25 (0, 0))) ∧ Aside0 (Below w.heap.size w w'))
  case atStart => exact ⟨1, 0, rfl, rfl, ⟨⟨by decide, by decide⟩⟩, ⟨(kind_first HK.out).symm⟩, BK, BN, HB⟩
  case round =>
    obtain ⟨i, kv, rfl, rfl, HI, HKV, BK, BN, HB⟩ := hrel
    by_cases hx : i ≤ 21
    · have le1 : decide (i ≤ 21) = true := decide_eq_true hx
      have HX := Aside0.mk hx
      have HWD := Aside0.mk (word_at i HI.out.1 hx)
      obtain ⟨nm, hnm⟩ : ∃ nm, nm = nameAt i := ⟨_, rfl⟩
      rw [← hnm] at HWD
      have hw1 : wrap64 (i + 1) = i + 1 := wrap_i HI.out.1 hx
      by_cases he : nm.toList = w0.toList
      · have q1 : (nm.toList == w0.toList) = true := beq_iff_eq.2 he
        have HV : Aside0 (i = if kd < i + 1 then kd else 0) := ⟨kind_hit HK.out HI.out.1 hx (hnm ▸ he)⟩
        clear he hnm hx
        go_upto_region 9 with fail
        go_region_held3 (fun w' => (convert 22 9 (.slice A0 n0 c0)).run Tryz.prog w' = .ok (.string w0) w') (first | exact HCV0.out _ (by repeat (first | (with_reducible first | exact HB.out | apply below_alloc | apply pw_below_drewN | apply below_drew1) | exact HB.out)) | go_keep) ((go_at_call 18; (with_reducible refine (word_c i nm HWD.out _).mono ?_); rintro e w5 ⟨rfl, hb⟩; have n0_ := Aside0.mk (blk_below (by (with_reducible repeat (first | refine blk_drewN ?_ _ | refine blk_drew ?_ | refine blk_alloc ?_ _)); exact BK.out) hb); have n1_ := Aside0.mk (blk_below (by (with_reducible repeat (first | refine blk_drewN ?_ _ | refine blk_drew ?_ | refine blk_alloc ?_ _)); exact BN.out) hb); have n2_ := Aside0.mk (below_step (by repeat (first | (with_reducible first | exact HB.out | apply below_alloc | apply pw_below_drewN | apply below_drew1) | exact HB.out)) hb); clear BK BN HB hb; have BK := n0_; have BN := n1_; have HB := n2_; clear n0_ n1_ n2_))
        all_goals go_wp2
        all_goals go_roundg (21 - i).toNat
        all_goals first | exact left_i HI.out HX.out | exact ⟨i + 1, i, (by first | rfl | (simp; done) | go_num | (simp [*]; done)), rfl, ⟨left_i2 HI.out HX.out⟩, HV, BK, BN, HB⟩
      · have q1 : (nm.toList == w0.toList) = false := beq_eq_false_iff_ne.2 he
        have HV : Aside0 (kv = if kd < i + 1 then kd else 0) := ⟨kind_miss HK.out HI.out.1 hx (hnm ▸ he) HKV.out⟩
        clear he hnm hx
        go_upto_region 9 with fail
        go_region_held3 (fun w' => (convert 22 9 (.slice A0 n0 c0)).run Tryz.prog w' = .ok (.string w0) w') (first | exact HCV0.out _ (by repeat (first | (with_reducible first | exact HB.out | apply below_alloc | apply pw_below_drewN | apply below_drew1) | exact HB.out)) | go_keep) ((go_at_call 18; (with_reducible refine (word_c i nm HWD.out _).mono ?_); rintro e w5 ⟨rfl, hb⟩; have n0_ := Aside0.mk (blk_below (by (with_reducible repeat (first | refine blk_drewN ?_ _ | refine blk_drew ?_ | refine blk_alloc ?_ _)); exact BK.out) hb); have n1_ := Aside0.mk (blk_below (by (with_reducible repeat (first | refine blk_drewN ?_ _ | refine blk_drew ?_ | refine blk_alloc ?_ _)); exact BN.out) hb); have n2_ := Aside0.mk (below_step (by repeat (first | (with_reducible first | exact HB.out | apply below_alloc | apply pw_below_drewN | apply below_drew1) | exact HB.out)) hb); clear BK BN HB hb; have BK := n0_; have BN := n1_; have HB := n2_; clear n0_ n1_ n2_))
        all_goals go_wp2
        all_goals go_roundg (21 - i).toNat
        all_goals first | exact left_i HI.out HX.out | exact ⟨i + 1, kv, (by first | rfl | (simp; done) | go_num | (simp [*]; done)), rfl, ⟨left_i2 HI.out HX.out⟩, HV, BK, BN, HB⟩
    · have le1 : decide (i ≤ 21) = false := decide_eq_false hx
      have hkd : kv = kd := kind_end HK.out HI.out.1 hx HKV.out
      rw [hkd]
      clear hkd
      clear hx HKV
      have hq : ((ws.length : Int) == (sb.size : Int)) = false := beq_eq_false_iff_ne.2 (by have := HSS.out; have := HLEN.out; omega)
      have hq2 : ((ws.length : Int) != (sb.size : Int)) = true := by rw [bne, hq]; rfl
      go_wp2_with (first | (go_at_call 19; (with_reducible refine (shape_c kd sb HSB.out _).mono ?_); rintro e w5 ⟨rfl, hb⟩; have n0_ := Aside0.mk (blk_below (by (with_reducible repeat (first | refine blk_drewN ?_ _ | refine blk_drew ?_ | refine blk_alloc ?_ _)); exact BK.out) hb); have n1_ := Aside0.mk (blk_below (by (with_reducible repeat (first | refine blk_drewN ?_ _ | refine blk_drew ?_ | refine blk_alloc ?_ _)); exact BN.out) hb); have n2_ := Aside0.mk (below_step (by repeat (first | (with_reducible first | exact HB.out | apply below_alloc | apply pw_below_drewN | apply below_drew1) | exact HB.out)) hb); clear BK BN HB hb; have BK := n0_; have BN := n1_; have HB := n2_; clear n0_ n1_ n2_) | (go_at_call 20; (with_reducible refine (blanks_c A0 c0 l0 _ HBL.out HC0.out _ (Kd.C_below HR0.out (by repeat (first | (with_reducible first | exact HB.out | apply below_alloc | apply pw_below_drewN | apply below_drew1) | exact HB.out)))).mono ?_); rintro e w5 ⟨rfl, hb⟩; have n0_ := Aside0.mk (blk_below (by (with_reducible repeat (first | refine blk_drewN ?_ _ | refine blk_drew ?_ | refine blk_alloc ?_ _)); exact BK.out) hb); have n1_ := Aside0.mk (blk_below (by (with_reducible repeat (first | refine blk_drewN ?_ _ | refine blk_drew ?_ | refine blk_alloc ?_ _)); exact BN.out) hb); have n2_ := Aside0.mk (below_step (by repeat (first | (with_reducible first | exact HB.out | apply below_alloc | apply pw_below_drewN | apply below_drew1) | exact HB.out)) hb); clear BK BN HB hb; have BK := n0_; have BN := n1_; have HB := n2_; clear n0_ n1_ n2_) | ((with_reducible refine gate_dst (N := 43) rfl ?_); refine load_event rfl (p := 5) rfl (g := gn) (cs := #[.int .i64 0, .int .i64 0, .int .i64 0, .int .i64 0, .int .i64 0, .int .i64 0, .string ⟨#[]⟩]) rfl BN.out rfl ?_) | ((with_reducible refine gate_store (p := 2) rfl ?_); refine row_event rfl rfl rfl (g := gb) #[.int .i64 0, .int .i64 0, .int .i64 0, .int .i64 0, .int .i64 0, .int .i64 0, .string ⟨#[]⟩] rfl ?hy BK.out Zcs_info rfl (one_cells _ _ _ _ _ _ _) ?_; (case hy => first | rfl | (go_simp; done) | (go_simp; rfl)); intro w4 hrow ht; have n0_ := Aside0.mk (hrow); have n1_ := Aside0.mk (ht.below HB.out GK.out (below_size HB.out)); clear BK HB hrow ht; have BK := n0_; have HB := n1_; clear n0_ n1_))
      ((try simp only [Exit.inBlock, Exit.then]); refine bodyPost_ret (ret_cell_tmp2 rfl _ _ gb _ rfl BK.out rfl) rfl ?_)
      exact ⟨rfl, HB.out⟩
theorem word_go {l0 : List Int} {e : Nat} {ws : List ByteArray} {i : Nat} {wd : ByteArray} (hd : l0.drop e = fm (ws.drop i)) (he : e ≤ l0.length) (hl : l0.length ≤ 1000000) (hwd : ws[i]? = some wd) (hn : (32 : UInt8) ∉ wd.data.toList) :
    (∃ k, arrearsref18_fieldEnd.f k l0 ((e : Int) + 1) = some ((e : Int) + 1 + (wd.size : Int))) ∧ (l0.drop (e + 1)).take wd.size = byts wd ∧ e + 1 + wd.size ≤ l0.length ∧ l0.drop (e + 1 + wd.size) = fm (ws.drop (i + 1)) := by
  rw [drop_at hwd] at hd
  obtain ⟨h1, h2⟩ := fm_next hd he
  obtain ⟨h3, h4, h5⟩ := fm_upto h1 h2 (byts_no hn)
  rw [byts_len] at h4 h5
  refine ⟨⟨(byts wd).length + 1, ?_⟩, by rw [h1, ← byts_len wd, List.take_left], h5, h4⟩
  have := fieldEnd_at l0 hl (byts wd) (e + 1) ((byts wd).length + 1) h3 (Nat.lt_succ_self _)
  unfold arrearsref18_fieldEnd.f
  rw [show ((e : Int) + 1) = ((e + 1 : Nat) : Int) by omega, this, byts_len]
  (congr 1; try omega)
theorem letter_at {kd : Int} {ls : List Nat} {sb : ByteArray} {x : Int} {l : Nat} (hsb : shapeB kd = sb) (hls : shapeL kd = ls) (h0 : 0 ≤ x) (hl : ls[x.toNat]? = some l) : bt sb x = (l : Int) := by
  obtain ⟨n, rfl⟩ := Int.eq_ofNat_of_zero_le h0
  rw [Int.toNat_natCast] at hl
  rw [bt_byts, ← hsb, shapeB_byts, hls, List.getD_eq_getElem?_getD, List.getElem?_map, hl]
  rfl
theorem left_x {x : Int} {n k : Nat} (h : 0 ≤ x ∧ x + k = n) (h1 : x < n) : (n - (x.toNat + 1)) < k := by omega
theorem left_x2 {x : Int} {n k : Nat} (h : 0 ≤ x ∧ x + k = n) (h1 : x < n) : 0 ≤ x + 1 ∧ x + 1 + ((n - (x.toNat + 1) : Nat) : Int) = n := by omega
theorem wrap_x {x : Int} {n : Nat} (h0 : 0 ≤ x) (h1 : x < n) (hn : n ≤ 5) : wrap64 (x + 1) = x + 1 := by unfold wrap64; omega
theorem wrap_e {e : Nat} {l0 : List Int} (h : e ≤ l0.length) (hl : l0.length ≤ 100) : wrap64 ((e : Int) + 1) = (e : Int) + 1 := by unfold wrap64; omega
theorem round_eq {ls : List Nat} {ws : List ByteArray} {x at_ : Int} {e : Nat} {wd : ByteArray} {o2 : O} {R : PR} (h0 : 0 ≤ x) (hat : (e : Int) + 1 = at_) (h : prun (ls.drop (x.toNat + 1)) (ws.drop (x.toNat + 1)) o2 (at_ + ((wd.size : Int) + 1)) = R) : prun (ls.drop (x + 1).toNat) (ws.drop (x + 1).toNat) o2 (((e + 1 + wd.size : Nat) : Int) + 1) = R := by
  rw [show (x + 1).toNat = x.toNat + 1 by omega, show ((e + 1 + wd.size : Nat) : Int) + 1 = at_ + ((wd.size : Int) + 1) by omega]
  exact h
theorem round_dr {l0 : List Int} {ws : List ByteArray} {x : Int} {n : Nat} (h0 : 0 ≤ x) (h : l0.drop n = fm (ws.drop (x.toNat + 1)) ∧ n ≤ l0.length) : l0.drop n = fm (ws.drop (x + 1).toNat) ∧ n ≤ l0.length := by
  rw [show (x + 1).toNat = x.toNat + 1 by omega]
  exact h
set_option maxHeartbeats 8000000 in
set_option maxRecDepth 100000 in
theorem ref_go (A0 : Option Addr) (c0 : Nat) (l0 : List Int) (hc0 : l0.length ≤ c0) (w : World) (hr0 : Kd.C (Kd.int .u8) w A0 l0.length l0) (hrP : PowAt w) (w0 : ByteArray) (ws : List ByteArray) (kd : Int) (hz : ¬ 100 < l0.length) (hw : wordsOf (strOfNums l0) = w0 :: ws) (hby : ∀ x ∈ l0, 0 ≤ x ∧ x ≤ 255) (hk : kindP w0 = kd) (ls : List Nat) (hk0 : kd ≠ 0) (hls : shapeL kd = ls) (hlen : ws.length = ls.length) (R : PR) (hR : prun ls ws { Zo with a0 := kd } ((w0.size : Int) + 1) = R) : Calls Tryz.prog 7 #[.slice A0 l0.length c0] w fun e w' => e = .returned (.tuple #[.agg R.o.cs, .int .i64 (PR.errno R), .int .i64 (PR.place R)]) ∧ Below w.heap.size w w' := by
  have HR := Aside0.mk hR
  have HNO : Aside0 (∀ x, x ∈ ws → (32 : UInt8) ∉ x.data.toList) := ⟨fun x hx => ((words_back hw).2 x (List.mem_cons_of_mem _ hx)).1⟩
  have HL5 : Aside0 (ls.length ≤ 5) := ⟨by have := shapeL_le kd; rw [hls] at this; exact this⟩
  have HFM : Aside0 (l0.drop w0.size = fm ws ∧ w0.size ≤ l0.length) := ⟨by
    have h := fm_words hw
    rw [byts_of hby] at h
    refine ⟨by rw [h, ← byts_len w0, List.drop_left], ?_⟩
    have := (first_cut hw hby).2
    omega⟩
  have HLZ : Aside0 (l0.length ≤ 100) := ⟨by omega⟩
  have hu := Tryz.underlying25
  have HB := Aside0.mk (Below.refl w.heap.size w)
  have HRP := Aside0.mk hrP
  have HR0 := Aside0.mk hr0
  have HC0 := Aside0.mk hc0
  have HKD := Aside0.mk hk0
  have hk1 : (kd == 0) = false := beq_eq_false_iff_ne.2 hk0
  obtain ⟨sb, hsb⟩ : ∃ sb, shapeB kd = sb := ⟨_, rfl⟩
  have HSB := Aside0.mk hsb
  have HSS : Aside0 (sb.size = ls.length) := ⟨by rw [← hsb, ← hls]; exact shapeB_size kd⟩
  have HBL : Aside0 (∃ k, arrearsref18_blanks.f k l0 = some (ws.length : Int)) := ⟨blanks_words hw hby (by omega)⟩
  have HLS := Aside0.mk hls
  have HLEN := Aside0.mk hlen
  have z1 : decide ((l0.length : Int) > 100) = false := decide_eq_false (by omega)
  have z2 : decide (100 < l0.length) = false := decide_eq_false hz
  have hlz : (l0.length : Int) ≤ 100 := by omega
  obtain ⟨en, hen⟩ : ∃ en : Int, en = ((w0.size : Nat) : Int) := ⟨_, rfl⟩
  have HEN := Aside0.mk hen
  have hfirst := first_cut hw hby
  have HFE : Aside0 (∃ k, arrearsref18_fieldEnd.f k l0 0 = some en) := ⟨by rw [hen]; exact first_end hw hby (by omega)⟩
  obtain ⟨n0, hcut0, hcv0⟩ := cut_first A0 c0 l0 w0 en w hr0 hc0 (by omega) (by rw [hen]; exact hfirst.2) (by rw [hen, Int.toNat_natCast]; exact hfirst.1)
  have HCV0 := Aside0.mk hcv0
  have HK := Aside0.mk hk
  have HWS := Aside0.mk hw
  have HBY := Aside0.mk hby
  clear hcv0 hr0 hrP hc0 hz hfirst hen hk hw hby
  clear hls hlen hsb hk0 hR
  go_enter Tryz.func7, Tryz.ntmps7
  go_wp2_with (first | ((with_reducible refine gate_dst (N := 2) rfl ?_); refine box_event ?hg (N := 2) ?hd (cs := #[.int .i64 0, .int .i64 0, .int .i64 0, .int .i64 0, .int .i64 0, .int .i64 0, .string ⟨#[]⟩]) (t := 25) ?hr ?_; (case hd => rfl); (case hg => rfl); (case hr => first | (go_simp; done) | (go_simp; rfl)); intro gb hg w3 hbox hb; have n0_ := Aside0.mk (hg ▸ below_size (by repeat (first | (with_reducible first | exact HB.out | apply below_alloc | apply pw_below_drewN | apply below_drew1) | exact HB.out)) : w.heap.size ≤ gb); have n1_ := Aside0.mk (hbox); have n2_ := Aside0.mk (below_step (by repeat (first | (with_reducible first | exact HB.out | apply below_alloc | apply pw_below_drewN | apply below_drew1) | exact HB.out)) hb); clear HB hb hbox; have GK := n0_; have BK := n1_; have HB := n2_; clear n0_ n1_ n2_; clear hg) | ((with_reducible refine gate_dst (N := 5) rfl ?_); refine box_event ?hg (N := 5) ?hd (cs := #[.int .i64 0, .int .i64 0, .int .i64 0, .int .i64 0, .int .i64 0, .int .i64 0, .string ⟨#[]⟩]) (t := 25) ?hr ?_; (case hd => rfl); (case hg => rfl); (case hr => first | (go_simp; done) | (go_simp; rfl)); intro gn hg w3 hbox hb; have n0_ := Aside0.mk (hg ▸ below_size (by repeat (first | (with_reducible first | exact HB.out | apply below_alloc | apply pw_below_drewN | apply below_drew1) | exact HB.out)) : w.heap.size ≤ gn); have n1_ := Aside0.mk (blk_below BK.out hb); have n2_ := Aside0.mk (hg ▸ (Nat.ne_of_gt (blk_lt BK.out)) : gn ≠ gb); have n3_ := Aside0.mk (hbox); have n4_ := Aside0.mk (below_step (by repeat (first | (with_reducible first | exact HB.out | apply below_alloc | apply pw_below_drewN | apply below_drew1) | exact HB.out)) hb); clear BK HB hb hbox; have GN := n0_; have BK := n1_; have NN := n2_; have BN := n3_; have HB := n4_; clear n0_ n1_ n2_ n3_ n4_; clear hg) | (go_at_call 17; (with_reducible refine (fe_c A0 c0 l0 0 en HFE.out HC0.out _ (Kd.C_below HR0.out (by repeat (first | (with_reducible first | exact HB.out | apply below_alloc | apply pw_below_drewN | apply below_drew1) | exact HB.out)))).mono ?_); rintro e w5 ⟨rfl, hb⟩; have n0_ := Aside0.mk (blk_below (by (with_reducible repeat (first | refine blk_drewN ?_ _ | refine blk_drew ?_ | refine blk_alloc ?_ _)); exact BK.out) hb); have n1_ := Aside0.mk (blk_below (by (with_reducible repeat (first | refine blk_drewN ?_ _ | refine blk_drew ?_ | refine blk_alloc ?_ _)); exact BN.out) hb); have n2_ := Aside0.mk (below_step (by repeat (first | (with_reducible first | exact HB.out | apply below_alloc | apply pw_below_drewN | apply below_drew1) | exact HB.out)) hb); clear BK BN HB hb; have BK := n0_; have BN := n1_; have HB := n2_; clear n0_ n1_ n2_))
  go_loopg [7, 8] 21 (fun kq v7 v8 w' => ∃ (i : Int) (kv : Int), v8 = .int .i64 i ∧ v7 = .int .i64 kv ∧ Aside0 (1 ≤ i ∧ i + kq = 22) ∧ Aside0 (kv = if kd < i then kd else 0) ∧ Aside0 (w'.heap[gb]? = some (.cells #[.int .i64 0, .int .i64 0, .int .i64 0, .int .i64 0, .int .i64 0, .int .i64 0, .string ⟨#[]⟩] 25 (0, 0))) ∧ Aside0 (w'.heap[gn]? = some (.cells #[.int .i64 0, .int .i64 0, .int .i64 0, .int .i64 0, .int .i64 0, .int .i64 0, .string ⟨#[]⟩] 25 (0, 0))) ∧ Aside0 (Below w.heap.size w w'))
  case atStart => exact ⟨1, 0, rfl, rfl, ⟨⟨by decide, by decide⟩⟩, ⟨(kind_first HK.out).symm⟩, BK, BN, HB⟩
  case round =>
    obtain ⟨i, kv, rfl, rfl, HI, HKV, BK, BN, HB⟩ := hrel
    by_cases hx : i ≤ 21
    · have le1 : decide (i ≤ 21) = true := decide_eq_true hx
      have HX := Aside0.mk hx
      have HWD := Aside0.mk (word_at i HI.out.1 hx)
      obtain ⟨nm, hnm⟩ : ∃ nm, nm = nameAt i := ⟨_, rfl⟩
      rw [← hnm] at HWD
      have hw1 : wrap64 (i + 1) = i + 1 := wrap_i HI.out.1 hx
      by_cases he : nm.toList = w0.toList
      · have q1 : (nm.toList == w0.toList) = true := beq_iff_eq.2 he
        have HV : Aside0 (i = if kd < i + 1 then kd else 0) := ⟨kind_hit HK.out HI.out.1 hx (hnm ▸ he)⟩
        clear he hnm hx
        go_upto_region 9 with fail
        go_region_held3 (fun w' => (convert 22 9 (.slice A0 n0 c0)).run Tryz.prog w' = .ok (.string w0) w') (first | exact HCV0.out _ (by repeat (first | (with_reducible first | exact HB.out | apply below_alloc | apply pw_below_drewN | apply below_drew1) | exact HB.out)) | go_keep) ((go_at_call 18; (with_reducible refine (word_c i nm HWD.out _).mono ?_); rintro e w5 ⟨rfl, hb⟩; have n0_ := Aside0.mk (blk_below (by (with_reducible repeat (first | refine blk_drewN ?_ _ | refine blk_drew ?_ | refine blk_alloc ?_ _)); exact BK.out) hb); have n1_ := Aside0.mk (blk_below (by (with_reducible repeat (first | refine blk_drewN ?_ _ | refine blk_drew ?_ | refine blk_alloc ?_ _)); exact BN.out) hb); have n2_ := Aside0.mk (below_step (by repeat (first | (with_reducible first | exact HB.out | apply below_alloc | apply pw_below_drewN | apply below_drew1) | exact HB.out)) hb); clear BK BN HB hb; have BK := n0_; have BN := n1_; have HB := n2_; clear n0_ n1_ n2_))
        all_goals go_wp2
        all_goals go_roundg (21 - i).toNat
        all_goals first | exact left_i HI.out HX.out | exact ⟨i + 1, i, (by first | rfl | (simp; done) | go_num | (simp [*]; done)), rfl, ⟨left_i2 HI.out HX.out⟩, HV, BK, BN, HB⟩
      · have q1 : (nm.toList == w0.toList) = false := beq_eq_false_iff_ne.2 he
        have HV : Aside0 (kv = if kd < i + 1 then kd else 0) := ⟨kind_miss HK.out HI.out.1 hx (hnm ▸ he) HKV.out⟩
        clear he hnm hx
        go_upto_region 9 with fail
        go_region_held3 (fun w' => (convert 22 9 (.slice A0 n0 c0)).run Tryz.prog w' = .ok (.string w0) w') (first | exact HCV0.out _ (by repeat (first | (with_reducible first | exact HB.out | apply below_alloc | apply pw_below_drewN | apply below_drew1) | exact HB.out)) | go_keep) ((go_at_call 18; (with_reducible refine (word_c i nm HWD.out _).mono ?_); rintro e w5 ⟨rfl, hb⟩; have n0_ := Aside0.mk (blk_below (by (with_reducible repeat (first | refine blk_drewN ?_ _ | refine blk_drew ?_ | refine blk_alloc ?_ _)); exact BK.out) hb); have n1_ := Aside0.mk (blk_below (by (with_reducible repeat (first | refine blk_drewN ?_ _ | refine blk_drew ?_ | refine blk_alloc ?_ _)); exact BN.out) hb); have n2_ := Aside0.mk (below_step (by repeat (first | (with_reducible first | exact HB.out | apply below_alloc | apply pw_below_drewN | apply below_drew1) | exact HB.out)) hb); clear BK BN HB hb; have BK := n0_; have BN := n1_; have HB := n2_; clear n0_ n1_ n2_))
        all_goals go_wp2
        all_goals go_roundg (21 - i).toNat
        all_goals first | exact left_i HI.out HX.out | exact ⟨i + 1, kv, (by first | rfl | (simp; done) | go_num | (simp [*]; done)), rfl, ⟨left_i2 HI.out HX.out⟩, HV, BK, BN, HB⟩
    · have le1 : decide (i ≤ 21) = false := decide_eq_false hx
      have hkd : kv = kd := kind_end HK.out HI.out.1 hx HKV.out
      rw [hkd]
      clear hkd
      clear hx HKV
      have hq : ((ws.length : Int) == (sb.size : Int)) = true := beq_iff_eq.2 (by have := HSS.out; have := HLEN.out; omega)
      have hq2 : ((ws.length : Int) != (sb.size : Int)) = false := by rw [bne, hq]; rfl
      have hss : (sb.size : Int) = (ls.length : Int) := by have := HSS.out; omega
      go_wp2_with (first | (go_at_call 19; (with_reducible refine (shape_c kd sb HSB.out _).mono ?_); rintro e w5 ⟨rfl, hb⟩; have n0_ := Aside0.mk (blk_below (by (with_reducible repeat (first | refine blk_drewN ?_ _ | refine blk_drew ?_ | refine blk_alloc ?_ _)); exact BK.out) hb); have n1_ := Aside0.mk (blk_below (by (with_reducible repeat (first | refine blk_drewN ?_ _ | refine blk_drew ?_ | refine blk_alloc ?_ _)); exact BN.out) hb); have n2_ := Aside0.mk (below_step (by repeat (first | (with_reducible first | exact HB.out | apply below_alloc | apply pw_below_drewN | apply below_drew1) | exact HB.out)) hb); clear BK BN HB hb; have BK := n0_; have BN := n1_; have HB := n2_; clear n0_ n1_ n2_) | (go_at_call 20; (with_reducible refine (blanks_c A0 c0 l0 _ HBL.out HC0.out _ (Kd.C_below HR0.out (by repeat (first | (with_reducible first | exact HB.out | apply below_alloc | apply pw_below_drewN | apply below_drew1) | exact HB.out)))).mono ?_); rintro e w5 ⟨rfl, hb⟩; have n0_ := Aside0.mk (blk_below (by (with_reducible repeat (first | refine blk_drewN ?_ _ | refine blk_drew ?_ | refine blk_alloc ?_ _)); exact BK.out) hb); have n1_ := Aside0.mk (blk_below (by (with_reducible repeat (first | refine blk_drewN ?_ _ | refine blk_drew ?_ | refine blk_alloc ?_ _)); exact BN.out) hb); have n2_ := Aside0.mk (below_step (by repeat (first | (with_reducible first | exact HB.out | apply below_alloc | apply pw_below_drewN | apply below_drew1) | exact HB.out)) hb); clear BK BN HB hb; have BK := n0_; have BN := n1_; have HB := n2_; clear n0_ n1_ n2_) | ((with_reducible refine gate_dst (N := 10) rfl ?_); refine box_event ?hg (N := 10) ?hd (cs := #[.int .i64 0, .int .i64 0, .int .i64 0, .int .i64 0, .int .i64 0, .int .i64 0, .string ⟨#[]⟩]) (t := 25) ?hr ?_; (case hd => rfl); (case hg => rfl); (case hr => first | (go_simp; done) | (go_simp; rfl)); intro go hg w3 hbox hb; have n0_ := Aside0.mk (hg ▸ below_size (by repeat (first | (with_reducible first | exact HB.out | apply below_alloc | apply pw_below_drewN | apply below_drew1) | exact HB.out)) : w.heap.size ≤ go); have n1_ := Aside0.mk (hg ▸ (Nat.ne_of_gt (blk_lt BK.out)) : go ≠ gb); have n2_ := Aside0.mk (hg ▸ (Nat.ne_of_gt (blk_lt BN.out)) : go ≠ gn); have n3_ := Aside0.mk (blk_below BK.out hb); have n4_ := Aside0.mk (blk_below BN.out hb); have n5_ := Aside0.mk (hbox); have n6_ := Aside0.mk (below_step (by repeat (first | (with_reducible first | exact HB.out | apply below_alloc | apply pw_below_drewN | apply below_drew1) | exact HB.out)) hb); clear BK BN HB hb hbox; have GO := n0_; have NOK := n1_; have NON := n2_; have BK := n3_; have BN := n4_; have BO := n5_; have HB := n6_; clear n0_ n1_ n2_ n3_ n4_ n5_ n6_; clear hg) | ((with_reducible refine gate_store (p := 10) rfl ?_); refine row_event rfl rfl rfl (g := go) #[.int .i64 kd, .int .i64 0, .int .i64 0, .int .i64 0, .int .i64 0, .int .i64 0, .string ⟨#[]⟩] rfl ?hy BO.out Zcs_info rfl (one_cells _ _ _ _ _ _ _) ?_; (case hy => first | rfl | (go_simp; done) | (go_simp; rfl)); intro w4 hrow ht; have n0_ := Aside0.mk ((ht.block gb (blk_lt BK.out) (Ne.symm NOK.out)).trans BK.out); have n1_ := Aside0.mk ((ht.block gn (blk_lt BN.out) (Ne.symm NON.out)).trans BN.out); have n2_ := Aside0.mk (ht.below (B := w.heap.size) (a := w) HB.out GO.out (by first | exact below_size HB.out | exact Nat.le_of_lt (Nat.lt_of_le_of_lt GO.out (blk_lt BO.out)))); have n3_ := Aside0.mk (hrow); clear BK BN HB BO hrow ht; have BK := n0_; have BN := n1_; have HB := n2_; have BO := n3_; clear n0_ n1_ n2_ n3_))
      clear hq hq2 z1 z2 hk1
      go_loopg [6, 11] ls.length (fun kq v6 v11 w' => ∃ (x : Int) (e : Nat) (o : O), v11 = .int .i64 x ∧ v6 = .int .i64 (e : Int) ∧ Aside0 (0 ≤ x ∧ x + kq = ls.length) ∧ Aside0 (prun (ls.drop x.toNat) (ws.drop x.toNat) o ((e : Int) + 1) = R) ∧ Aside0 (l0.drop e = fm (ws.drop x.toNat) ∧ e ≤ l0.length) ∧ Aside0 (w'.heap[gb]? = some (.cells #[.int .i64 0, .int .i64 0, .int .i64 0, .int .i64 0, .int .i64 0, .int .i64 0, .string ⟨#[]⟩] 25 (0, 0))) ∧ Aside0 (w'.heap[gn]? = some (.cells #[.int .i64 0, .int .i64 0, .int .i64 0, .int .i64 0, .int .i64 0, .int .i64 0, .string ⟨#[]⟩] 25 (0, 0))) ∧ Aside0 (w'.heap[go]? = some (.cells o.cs 25 (0, 0))) ∧ Aside0 (Below w.heap.size w w'))
      case atStart => exact ⟨0, w0.size, { Zo with a0 := kd }, rfl, (by rw [HEN.out]), ⟨⟨Int.le_refl _, by omega⟩⟩, HR, HFM, BK, BN, BO, HB⟩
      case round =>
        obtain ⟨x, e, o, rfl, rfl, HI, HR, HD, BK, BN, BO, HB⟩ := hrel
        by_cases hx : x < ls.length
        · obtain ⟨l, hl⟩ : ∃ l, ls[x.toNat]? = some l := ⟨_, List.getElem?_eq_getElem (by have := HI.out; omega)⟩
          obtain ⟨wd, hwd⟩ : ∃ wd, ws[x.toNat]? = some wd := ⟨_, List.getElem?_eq_getElem (by have := HI.out; have := HLEN.out; omega)⟩
          have HR1 := HR.out
          rw [drop_at hl, drop_at hwd, prun] at HR1
          have hbt := letter_at HSB.out HLS.out HI.out.1 hl
          obtain ⟨h1, h2, h3, h4⟩ := word_go HD.out.1 HD.out.2 (by have := HLZ.out; omega) hwd (HNO.out wd (List.mem_of_getElem? hwd))
          obtain ⟨at_, hat⟩ : ∃ at_ : Int, (e : Int) + 1 = at_ := ⟨_, rfl⟩
          have hwa : wrap64 ((e : Int) + 1) = at_ := (wrap_e HD.out.2 HLZ.out).trans hat
          obtain ⟨en2, hen2⟩ : ∃ en2 : Int, (e : Int) + 1 + (wd.size : Int) = en2 := ⟨_, rfl⟩
          have HAT := Aside0.mk hat
          have HEN2 := Aside0.mk hen2
          rw [hen2, hat] at h1
          rw [hat] at HR1
          have HFE2 := Aside0.mk h1
          obtain ⟨Ac, nc, cc, hcut, hcv⟩ := cut_text A0 c0 l0 wd at_ en2 w HR0.out HC0.out (by omega) (by omega) (by omega) (by rw [show at_.toNat = e + 1 by omega, show en2.toNat - (e + 1) = wd.size by omega]; exact h2)
          have HCV := Aside0.mk hcv
          have HD2 : Aside0 (l0.drop (e + 1 + wd.size) = fm (ws.drop (x.toNat + 1)) ∧ e + 1 + wd.size ≤ l0.length) := ⟨⟨h4, h3⟩⟩
          obtain ⟨k, o2, b, hp1, hp2, hp3⟩ := put_ev l o wd
          have HPUT : Aside0 (∀ W, PowAt W → Calls Tryz.prog 21 #[.agg #[.int .i64 o.a0, .int .i64 o.a1, .int .i64 o.a2, .int .i64 o.a3, .int .i64 o.a4, .int .i64 o.a5, .string o.a6], .int .u8 (l : Int), .string wd] W fun e w' => e = .returned (.tuple #[.agg #[.int .i64 o2.a0, .int .i64 o2.a1, .int .i64 o2.a2, .int .i64 o2.a3, .int .i64 o2.a4, .int .i64 o2.a5, .string o2.a6], .bool b]) ∧ Below W.heap.size W w') := ⟨fun W hW => arrearsref18_put.calls k o.a0 o.a1 o.a2 o.a3 o.a4 o.a5 o.a6 (l : Int) wd o2.a0 o2.a1 o2.a2 o2.a3 o2.a4 o2.a5 o2.a6 b W hW hp1⟩
          have HX := Aside0.mk hx
          have lt1 : decide (x < (ls.length : Int)) = true := decide_eq_true hx
          have p0 : (0 ≤ x) = True := eq_true HI.out.1
          have q0 : (x < (sb.size : Int)) = True := eq_true (by omega)
          have q1 : (x < (ls.length : Int)) = True := eq_true hx
          have hx4 := bt_at sb x
          rw [hbt] at hx4
          have hw1 : wrap64 (x + 1) = x + 1 := wrap_x HI.out.1 hx HL5.out
          have HP2 := Aside0.mk hp2
          have HP3 := Aside0.mk hp3
          clear hp1 hp2 hp3 h1 h2 h3 h4 hcv hl hwd hat hen2 hbt hx HR
          go_upto_region 22 with (first | (go_at_call 17; (with_reducible refine (fe_c A0 c0 l0 at_ en2 HFE2.out HC0.out _ (Kd.C_below HR0.out (by repeat (first | (with_reducible first | exact HB.out | apply below_alloc | apply pw_below_drewN | apply below_drew1) | exact HB.out)))).mono ?_); rintro e wR ⟨rfl, hb⟩; have n0_ := Aside0.mk (blk_below (by (with_reducible repeat (first | refine blk_drewN ?_ _ | refine blk_drew ?_ | refine blk_alloc ?_ _)); exact BK.out) hb); have n1_ := Aside0.mk (blk_below (by (with_reducible repeat (first | refine blk_drewN ?_ _ | refine blk_drew ?_ | refine blk_alloc ?_ _)); exact BN.out) hb); have n2_ := Aside0.mk (blk_below (by (with_reducible repeat (first | refine blk_drewN ?_ _ | refine blk_drew ?_ | refine blk_alloc ?_ _)); exact BO.out) hb); have n3_ := Aside0.mk (below_step (by repeat (first | (with_reducible first | exact HB.out | apply below_alloc | apply pw_below_drewN | apply below_drew1) | exact HB.out)) hb); clear BK BN BO HB hb; have BK := n0_; have BN := n1_; have BO := n2_; have HB := n3_; clear n0_ n1_ n2_ n3_))
          refine start_ (n := 16) (S := fun w' => w'.cell? ⟨go, 0, none⟩ = some (.int .i64 o.a0) ∧ w'.cell? ⟨go, 1, none⟩ = some (.int .i64 o.a1) ∧ w'.cell? ⟨go, 2, none⟩ = some (.int .i64 o.a2) ∧ w'.cell? ⟨go, 3, none⟩ = some (.int .i64 o.a3) ∧ w'.cell? ⟨go, 4, none⟩ = some (.int .i64 o.a4) ∧ w'.cell? ⟨go, 5, none⟩ = some (.int .i64 o.a5) ∧ w'.cell? ⟨go, 6, none⟩ = some (.string o.a6) ∧ (convert 22 9 (.slice Ac nc cc)).run Tryz.prog w' = .ok (.string wd) w') (ds := [14]) #[false, false, false, false, false, false, false, false, false, false, false, false, false, false, false, false] (by kernel_rfl) rfl rfl ⟨(blk_cell BO.out 0).trans rfl, (blk_cell BO.out 1).trans rfl, (blk_cell BO.out 2).trans rfl, (blk_cell BO.out 3).trans rfl, (blk_cell BO.out 4).trans rfl, (blk_cell BO.out 5).trans rfl, (blk_cell BO.out 6).trans rfl, HCV.out _ (below_drew1 HB.out)⟩ (fun hHeld => ?_)
          refine pure_ (i := 1) (N := some 61) (v := ?_) (a' := ?_) #[false, true, false, false, false, false, false, false, false, false, false, false, false, false, false, false] rfl rfl (by kernel_rfl) (fun _ _ _ h => h) (Or.inl ⟨by rfl, ?_⟩) ?_ ?_
          rotate_left
          · intro w'
            go_simp
            with_reducible rfl
          rotate_left
          · simp only [Act.put, List.setIfInBounds_toArray, List.set_cons_zero, List.set_cons_succ, i64_w, i32_w]
            rfl
          refine pure_ (i := 2) (N := some 62) (v := ?_) (a' := ?_) #[false, true, true, false, false, false, false, false, false, false, false, false, false, false, false, false] rfl rfl (by kernel_rfl) (fun _ _ _ h => h) (Or.inl ⟨by rfl, ?_⟩) ?_ ?_
          rotate_left
          · intro w'
            go_simp
            with_reducible rfl
          rotate_left
          · simp only [Act.put, List.setIfInBounds_toArray, List.set_cons_zero, List.set_cons_succ, i64_w, i32_w]
            rfl
          refine pure_ (i := 4) (N := some 64) (v := ?_) (a' := ?_) #[false, true, true, false, true, false, false, false, false, false, false, false, false, false, false, false] rfl rfl (by kernel_rfl) (fun _ _ _ h => h) (Or.inl ⟨by rfl, ?_⟩) ?_ ?_
          rotate_left
          · intro w'
            go_simp
            with_reducible rfl
          rotate_left
          · simp only [Act.put, List.setIfInBounds_toArray, List.set_cons_zero, List.set_cons_succ, i64_w, i32_w]
            rfl
          refine pure_ (i := 5) (N := some 65) (v := ?_) (a' := ?_) #[false, true, true, false, true, true, false, false, false, false, false, false, false, false, false, false] rfl rfl (by kernel_rfl) (fun _ _ _ h => h) (Or.inl ⟨by rfl, ?_⟩) ?_ ?_
          rotate_left
          · intro w'
            go_simp
            with_reducible rfl
          rotate_left
          · simp only [Act.put, List.setIfInBounds_toArray, List.set_cons_zero, List.set_cons_succ, i64_w, i32_w]
            rfl
          refine pure_ (i := 6) (N := some 66) (v := ?_) (a' := ?_) #[false, true, true, false, true, true, true, false, false, false, false, false, false, false, false, false] rfl rfl (by kernel_rfl) (fun _ _ _ h => h) (Or.inl ⟨by rfl, ?_⟩) ?_ ?_
          rotate_left
          · intro w'
            go_simp
            with_reducible rfl
          rotate_left
          · simp only [Act.put, List.setIfInBounds_toArray, List.set_cons_zero, List.set_cons_succ, i64_w, i32_w]
            rfl
          refine pure_ (i := 7) (N := some 67) (v := ?_) (a' := ?_) #[false, true, true, false, true, true, true, true, false, false, false, false, false, false, false, false] rfl rfl (by kernel_rfl) (fun _ _ _ h => h) (Or.inl ⟨by rfl, ?_⟩) ?_ ?_
          rotate_left
          · intro w'
            go_simp
            with_reducible rfl
          rotate_left
          · simp only [Act.put, List.setIfInBounds_toArray, List.set_cons_zero, List.set_cons_succ, i64_w, i32_w]
            rfl
          refine take_ (i := 0) (N := some 60) (v := ?_) (a' := ?_) #[true, true, true, false, true, true, true, true, false, false, false, false, false, false, false, false] rfl rfl (by kernel_rfl) (fun _ _ _ h => h) (Or.inl ⟨by rfl, ?_⟩) hHeld ?_ ?_
          rotate_left
          · rintro w' ⟨s0, s1, s2, s3, s4, s5, s6, s7⟩
            go_simp
            with_reducible rfl
          rotate_left
          · simp only [Act.put, List.setIfInBounds_toArray, List.set_cons_zero, List.set_cons_succ, i64_w, i32_w]
            rfl
          refine take_ (i := 3) (N := some 63) (v := ?_) (a' := ?_) #[true, true, true, true, true, true, true, true, false, false, false, false, false, false, false, false] rfl rfl (by kernel_rfl) (fun _ _ _ h => h) (Or.inl ⟨by rfl, ?_⟩) hHeld ?_ ?_
          rotate_left
          · rintro w' ⟨s0, s1, s2, s3, s4, s5, s6, s7⟩
            go_simp
            with_reducible rfl
          rotate_left
          · simp only [Act.put, List.setIfInBounds_toArray, List.set_cons_zero, List.set_cons_succ, i64_w, i32_w]
            rfl
          refine take_ (i := 8) (N := some 68) (v := ?_) (a' := ?_) #[true, true, true, true, true, true, true, true, true, false, false, false, false, false, false, false] rfl rfl (by kernel_rfl) (fun _ _ _ h => h) (Or.inl ⟨by rfl, ?_⟩) hHeld ?_ ?_
          rotate_left
          · rintro w' ⟨s0, s1, s2, s3, s4, s5, s6, s7⟩
            go_simp
            with_reducible rfl
          rotate_left
          · simp only [Act.put, List.setIfInBounds_toArray, List.set_cons_zero, List.set_cons_succ, i64_w, i32_w]
            rfl
          refine join_ (σ := Nat) 2 #[true, true, true, true, true, true, true, true, true, true, true, true, true, true, false, false] (fun g_ => [(69, .tuple #[.agg #[.int .i64 o2.a0, .int .i64 o2.a1, .int .i64 o2.a2, .int .i64 o2.a3, .int .i64 o2.a4, .int .i64 o2.a5, .string o2.a6], .bool b]), (59, .tuple #[.agg #[.int .i64 o2.a0, .int .i64 o2.a1, .int .i64 o2.a2, .int .i64 o2.a3, .int .i64 o2.a4, .int .i64 o2.a5, .string o2.a6], .bool b]), (70, .agg #[.int .i64 o2.a0, .int .i64 o2.a1, .int .i64 o2.a2, .int .i64 o2.a3, .int .i64 o2.a4, .int .i64 o2.a5, .string o2.a6]), (71, .bool b), (13, .pointer (some ⟨g_, 0, none⟩))]) (fun g_ w' => (w'.cell? ⟨go, 0, none⟩ = some (.int .i64 o.a0) ∧ w'.cell? ⟨go, 1, none⟩ = some (.int .i64 o.a1) ∧ w'.cell? ⟨go, 2, none⟩ = some (.int .i64 o.a2) ∧ w'.cell? ⟨go, 3, none⟩ = some (.int .i64 o.a3) ∧ w'.cell? ⟨go, 4, none⟩ = some (.int .i64 o.a4) ∧ w'.cell? ⟨go, 5, none⟩ = some (.int .i64 o.a5) ∧ w'.cell? ⟨go, 6, none⟩ = some (.string o.a6) ∧ (convert 22 9 (.slice Ac nc cc)).run Tryz.prog w' = .ok (.string wd) w') ∧ Aside0 (w.heap.size ≤ g_) ∧ Aside0 (g_ ≠ gb) ∧ Aside0 (g_ ≠ gn) ∧ Aside0 (g_ ≠ go) ∧ Aside0 (w'.heap[g_]? = some (.cells #[.int .i64 0, .int .i64 0, .int .i64 0, .int .i64 0, .int .i64 0, .int .i64 0, .string ⟨#[]⟩] 25 (0, 0))) ∧ Aside0 (w'.heap[gb]? = some (.cells #[.int .i64 0, .int .i64 0, .int .i64 0, .int .i64 0, .int .i64 0, .int .i64 0, .string ⟨#[]⟩] 25 (0, 0))) ∧ Aside0 (w'.heap[gn]? = some (.cells #[.int .i64 0, .int .i64 0, .int .i64 0, .int .i64 0, .int .i64 0, .int .i64 0, .string ⟨#[]⟩] 25 (0, 0))) ∧ Aside0 (w'.heap[go]? = some (.cells o.cs 25 (0, 0))) ∧ Aside0 (Below w.heap.size w w')) ?_ ?_
          rotate_left
          · intro hCont
            refine two_ (i := 9) (j := 13) (Ni := some 69) (Nj := some 13) #[true, true, true, true, true, true, true, true, true, true, false, false, false, false, false, false] #[true, true, true, true, true, true, true, true, true, false, false, false, false, true, false, false] rfl rfl rfl rfl (by kernel_rfl) (by decide) (by decide) (fun K hK => ?_) (fun K hK => ?_)
            · skip
              refine goes_ Tryz.func21 (by kernel_rfl) rfl #[.agg #[.int .i64 o.a0, .int .i64 o.a1, .int .i64 o.a2, .int .i64 o.a3, .int .i64 o.a4, .int .i64 o.a5, .string o.a6], .int .u8 (l : Int), .string wd] (by rfl) rfl rfl (by simp only [List.map_toArray, List.map_cons, List.map_nil]; rfl) ?_
              with_reducible refine (HPUT.out _ (PowAt_below HRP.out (by repeat (first | (with_reducible first | exact HB.out | apply below_alloc | apply pw_below_drewN | apply below_drew1) | exact HB.out)))).mono ?_
              rintro e w5 ⟨rfl, hb⟩
              refine ⟨_, rfl, ?_⟩
              have n0_ := Aside0.mk (blk_below (by (with_reducible repeat (first | refine blk_drewN ?_ _ | refine blk_drew ?_ | refine blk_alloc ?_ _)); exact BK.out) hb)
              have n1_ := Aside0.mk (blk_below (by (with_reducible repeat (first | refine blk_drewN ?_ _ | refine blk_drew ?_ | refine blk_alloc ?_ _)); exact BN.out) hb)
              have n2_ := Aside0.mk (blk_below (by (with_reducible repeat (first | refine blk_drewN ?_ _ | refine blk_drew ?_ | refine blk_alloc ?_ _)); exact BO.out) hb)
              have n3_ := Aside0.mk (below_step (by repeat (first | (with_reducible first | exact HB.out | apply below_alloc | apply pw_below_drewN | apply below_drew1) | exact HB.out)) hb)
              clear BK BN BO HB hb
              have BK := n0_
              have BN := n1_
              have BO := n2_
              have HB := n3_
              clear n0_ n1_ n2_ n3_
              refine hK.out _ _ ⟨(blk_cell BO.out 0).trans rfl, (blk_cell BO.out 1).trans rfl, (blk_cell BO.out 2).trans rfl, (blk_cell BO.out 3).trans rfl, (blk_cell BO.out 4).trans rfl, (blk_cell BO.out 5).trans rfl, (blk_cell BO.out 6).trans rfl, HCV.out _ HB.out⟩ (fun hHeld => ?_)
              clear hK K
              refine norm_ (a' := ?_) ?_ ?_
              rotate_left
              · show Act.put _ (some 69) _ = _
                simp only [Act.put, List.setIfInBounds_toArray, List.set_cons_zero, List.set_cons_succ, i64_w, i32_w]
                rfl
              refine pure_ (i := 10) (N := some 59) (v := ?_) (a' := ?_) #[true, true, true, true, true, true, true, true, true, true, true, false, false, false, false, false] rfl rfl (by kernel_rfl) (fun _ _ _ h => h) (Or.inl ⟨by rfl, ?_⟩) ?_ ?_
              rotate_left
              · intro w'
                go_simp
                with_reducible rfl
              rotate_left
              · simp only [Act.put, List.setIfInBounds_toArray, List.set_cons_zero, List.set_cons_succ, i64_w, i32_w]
                rfl
              refine pure_ (i := 11) (N := some 70) (v := ?_) (a' := ?_) #[true, true, true, true, true, true, true, true, true, true, true, true, false, false, false, false] rfl rfl (by kernel_rfl) (fun _ _ _ h => h) (Or.inl ⟨by rfl, ?_⟩) ?_ ?_
              rotate_left
              · intro w'
                go_simp
                with_reducible rfl
              rotate_left
              · simp only [Act.put, List.setIfInBounds_toArray, List.set_cons_zero, List.set_cons_succ, i64_w, i32_w]
                rfl
              refine pure_ (i := 12) (N := some 71) (v := ?_) (a' := ?_) #[true, true, true, true, true, true, true, true, true, true, true, true, true, false, false, false] rfl rfl (by kernel_rfl) (fun _ _ _ h => h) (Or.inl ⟨by rfl, ?_⟩) ?_ ?_
              rotate_left
              · intro w'
                go_simp
                with_reducible rfl
              rotate_left
              · simp only [Act.put, List.setIfInBounds_toArray, List.set_cons_zero, List.set_cons_succ, i64_w, i32_w]
                rfl
              refine one_ (i := 13) (N := some 13) #[true, true, true, true, true, true, true, true, true, true, true, true, true, true, false, false] rfl rfl (by kernel_rfl) (by decide) (fun K hK => ?_)
              refine box_step (by rfl) (N := 13) rfl (cs := #[.int .i64 0, .int .i64 0, .int .i64 0, .int .i64 0, .int .i64 0, .int .i64 0, .string ⟨#[]⟩]) (t := 25) ?hr ?_
              (case hr => first | (go_simp; done) | (go_simp; rfl))
              intro g13 hg w6 hbox hb
              have n0_ := Aside0.mk (hg ▸ below_size (by repeat (first | (with_reducible first | exact HB.out | apply below_alloc | apply pw_below_drewN | apply below_drew1) | exact HB.out)) : w.heap.size ≤ g13)
              have n1_ := Aside0.mk (hg ▸ (Nat.ne_of_gt (blk_lt BK.out)) : g13 ≠ gb)
              have n2_ := Aside0.mk (hg ▸ (Nat.ne_of_gt (blk_lt BN.out)) : g13 ≠ gn)
              have n3_ := Aside0.mk (hg ▸ (Nat.ne_of_gt (blk_lt BO.out)) : g13 ≠ go)
              have n4_ := Aside0.mk (blk_below (by (with_reducible repeat (first | refine blk_drewN ?_ _ | refine blk_drew ?_ | refine blk_alloc ?_ _)); exact BK.out) hb)
              have n5_ := Aside0.mk (blk_below (by (with_reducible repeat (first | refine blk_drewN ?_ _ | refine blk_drew ?_ | refine blk_alloc ?_ _)); exact BN.out) hb)
              have n6_ := Aside0.mk (blk_below (by (with_reducible repeat (first | refine blk_drewN ?_ _ | refine blk_drew ?_ | refine blk_alloc ?_ _)); exact BO.out) hb)
              have n7_ := Aside0.mk (hbox)
              have n8_ := Aside0.mk (below_step (by repeat (first | (with_reducible first | exact HB.out | apply below_alloc | apply pw_below_drewN | apply below_drew1) | exact HB.out)) hb)
              clear BK BN BO HB hb hbox
              have G13 := n0_
              have N13K := n1_
              have N13N := n2_
              have N13O := n3_
              have BK := n4_
              have BN := n5_
              have BO := n6_
              have B13 := n7_
              have HB := n8_
              clear n0_ n1_ n2_ n3_ n4_ n5_ n6_ n7_ n8_
              clear hg
              refine hK.out _ _ ⟨(blk_cell BO.out 0).trans rfl, (blk_cell BO.out 1).trans rfl, (blk_cell BO.out 2).trans rfl, (blk_cell BO.out 3).trans rfl, (blk_cell BO.out 4).trans rfl, (blk_cell BO.out 5).trans rfl, (blk_cell BO.out 6).trans rfl, HCV.out _ HB.out⟩ (fun hHeld => ?_)
              clear hK K
              refine norm_ (a' := ?_) ?_ ?_
              rotate_left
              · show Act.put _ (some 13) _ = _
                simp only [Act.put, List.setIfInBounds_toArray, List.set_cons_zero, List.set_cons_succ, i64_w, i32_w]
                rfl
              exact norm_ (by first | (simp only [putAll, Act.put, List.setIfInBounds_toArray, List.set_cons_zero, List.set_cons_succ]; done) | (simp only [putAll, Act.put, List.setIfInBounds_toArray, List.set_cons_zero, List.set_cons_succ]; rfl)) (hCont g13 _ ⟨⟨(blk_cell BO.out 0).trans rfl, (blk_cell BO.out 1).trans rfl, (blk_cell BO.out 2).trans rfl, (blk_cell BO.out 3).trans rfl, (blk_cell BO.out 4).trans rfl, (blk_cell BO.out 5).trans rfl, (blk_cell BO.out 6).trans rfl, HCV.out _ HB.out⟩, G13, N13K, N13N, N13O, B13, BK, BN, BO, HB⟩)
            · skip
              refine box_step (by rfl) (N := 13) rfl (cs := #[.int .i64 0, .int .i64 0, .int .i64 0, .int .i64 0, .int .i64 0, .int .i64 0, .string ⟨#[]⟩]) (t := 25) ?hr ?_
              (case hr => first | (go_simp; done) | (go_simp; rfl))
              intro g13 hg w6 hbox hb
              have n0_ := Aside0.mk (hg ▸ below_size (by repeat (first | (with_reducible first | exact HB.out | apply below_alloc | apply pw_below_drewN | apply below_drew1) | exact HB.out)) : w.heap.size ≤ g13)
              have n1_ := Aside0.mk (hg ▸ (Nat.ne_of_gt (blk_lt BK.out)) : g13 ≠ gb)
              have n2_ := Aside0.mk (hg ▸ (Nat.ne_of_gt (blk_lt BN.out)) : g13 ≠ gn)
              have n3_ := Aside0.mk (hg ▸ (Nat.ne_of_gt (blk_lt BO.out)) : g13 ≠ go)
              have n4_ := Aside0.mk (blk_below (by (with_reducible repeat (first | refine blk_drewN ?_ _ | refine blk_drew ?_ | refine blk_alloc ?_ _)); exact BK.out) hb)
              have n5_ := Aside0.mk (blk_below (by (with_reducible repeat (first | refine blk_drewN ?_ _ | refine blk_drew ?_ | refine blk_alloc ?_ _)); exact BN.out) hb)
              have n6_ := Aside0.mk (blk_below (by (with_reducible repeat (first | refine blk_drewN ?_ _ | refine blk_drew ?_ | refine blk_alloc ?_ _)); exact BO.out) hb)
              have n7_ := Aside0.mk (hbox)
              have n8_ := Aside0.mk (below_step (by repeat (first | (with_reducible first | exact HB.out | apply below_alloc | apply pw_below_drewN | apply below_drew1) | exact HB.out)) hb)
              clear BK BN BO HB hb hbox
              have G13 := n0_
              have N13K := n1_
              have N13N := n2_
              have N13O := n3_
              have BK := n4_
              have BN := n5_
              have BO := n6_
              have B13 := n7_
              have HB := n8_
              clear n0_ n1_ n2_ n3_ n4_ n5_ n6_ n7_ n8_
              clear hg
              refine hK.out _ _ ⟨(blk_cell BO.out 0).trans rfl, (blk_cell BO.out 1).trans rfl, (blk_cell BO.out 2).trans rfl, (blk_cell BO.out 3).trans rfl, (blk_cell BO.out 4).trans rfl, (blk_cell BO.out 5).trans rfl, (blk_cell BO.out 6).trans rfl, HCV.out _ HB.out⟩ (fun hHeld => ?_)
              clear hK K
              refine norm_ (a' := ?_) ?_ ?_
              rotate_left
              · show Act.put _ (some 13) _ = _
                simp only [Act.put, List.setIfInBounds_toArray, List.set_cons_zero, List.set_cons_succ, i64_w, i32_w]
                rfl
              refine one_ (i := 9) (N := some 69) #[true, true, true, true, true, true, true, true, true, true, false, false, false, true, false, false] rfl rfl (by kernel_rfl) (by decide) (fun K hK => ?_)
              refine goes_ Tryz.func21 (by kernel_rfl) rfl #[.agg #[.int .i64 o.a0, .int .i64 o.a1, .int .i64 o.a2, .int .i64 o.a3, .int .i64 o.a4, .int .i64 o.a5, .string o.a6], .int .u8 (l : Int), .string wd] (by rfl) rfl rfl (by simp only [List.map_toArray, List.map_cons, List.map_nil]; rfl) ?_
              with_reducible refine (HPUT.out _ (PowAt_below HRP.out (by repeat (first | (with_reducible first | exact HB.out | apply below_alloc | apply pw_below_drewN | apply below_drew1) | exact HB.out)))).mono ?_
              rintro e w5 ⟨rfl, hb⟩
              refine ⟨_, rfl, ?_⟩
              have n0_ := Aside0.mk (blk_below (by (with_reducible repeat (first | refine blk_drewN ?_ _ | refine blk_drew ?_ | refine blk_alloc ?_ _)); exact BK.out) hb)
              have n1_ := Aside0.mk (blk_below (by (with_reducible repeat (first | refine blk_drewN ?_ _ | refine blk_drew ?_ | refine blk_alloc ?_ _)); exact BN.out) hb)
              have n2_ := Aside0.mk (blk_below (by (with_reducible repeat (first | refine blk_drewN ?_ _ | refine blk_drew ?_ | refine blk_alloc ?_ _)); exact BO.out) hb)
              have n3_ := Aside0.mk (blk_below (by (with_reducible repeat (first | refine blk_drewN ?_ _ | refine blk_drew ?_ | refine blk_alloc ?_ _)); exact B13.out) hb)
              have n4_ := Aside0.mk (below_step (by repeat (first | (with_reducible first | exact HB.out | apply below_alloc | apply pw_below_drewN | apply below_drew1) | exact HB.out)) hb)
              clear BK BN BO B13 HB hb
              have BK := n0_
              have BN := n1_
              have BO := n2_
              have B13 := n3_
              have HB := n4_
              clear n0_ n1_ n2_ n3_ n4_
              refine hK.out _ _ ⟨(blk_cell BO.out 0).trans rfl, (blk_cell BO.out 1).trans rfl, (blk_cell BO.out 2).trans rfl, (blk_cell BO.out 3).trans rfl, (blk_cell BO.out 4).trans rfl, (blk_cell BO.out 5).trans rfl, (blk_cell BO.out 6).trans rfl, HCV.out _ HB.out⟩ (fun hHeld => ?_)
              clear hK K
              refine norm_ (a' := ?_) ?_ ?_
              rotate_left
              · show Act.put _ (some 69) _ = _
                simp only [Act.put, List.setIfInBounds_toArray, List.set_cons_zero, List.set_cons_succ, i64_w, i32_w]
                rfl
              refine pure_ (i := 10) (N := some 59) (v := ?_) (a' := ?_) #[true, true, true, true, true, true, true, true, true, true, true, false, false, true, false, false] rfl rfl (by kernel_rfl) (fun _ _ _ h => h) (Or.inl ⟨by rfl, ?_⟩) ?_ ?_
              rotate_left
              · intro w'
                go_simp
                with_reducible rfl
              rotate_left
              · simp only [Act.put, List.setIfInBounds_toArray, List.set_cons_zero, List.set_cons_succ, i64_w, i32_w]
                rfl
              refine pure_ (i := 11) (N := some 70) (v := ?_) (a' := ?_) #[true, true, true, true, true, true, true, true, true, true, true, true, false, true, false, false] rfl rfl (by kernel_rfl) (fun _ _ _ h => h) (Or.inl ⟨by rfl, ?_⟩) ?_ ?_
              rotate_left
              · intro w'
                go_simp
                with_reducible rfl
              rotate_left
              · simp only [Act.put, List.setIfInBounds_toArray, List.set_cons_zero, List.set_cons_succ, i64_w, i32_w]
                rfl
              refine pure_ (i := 12) (N := some 71) (v := ?_) (a' := ?_) #[true, true, true, true, true, true, true, true, true, true, true, true, true, true, false, false] rfl rfl (by kernel_rfl) (fun _ _ _ h => h) (Or.inl ⟨by rfl, ?_⟩) ?_ ?_
              rotate_left
              · intro w'
                go_simp
                with_reducible rfl
              rotate_left
              · simp only [Act.put, List.setIfInBounds_toArray, List.set_cons_zero, List.set_cons_succ, i64_w, i32_w]
                rfl
              exact norm_ (by first | (simp only [putAll, Act.put, List.setIfInBounds_toArray, List.set_cons_zero, List.set_cons_succ]; done) | (simp only [putAll, Act.put, List.setIfInBounds_toArray, List.set_cons_zero, List.set_cons_succ]; rfl)) (hCont g13 _ ⟨⟨(blk_cell BO.out 0).trans rfl, (blk_cell BO.out 1).trans rfl, (blk_cell BO.out 2).trans rfl, (blk_cell BO.out 3).trans rfl, (blk_cell BO.out 4).trans rfl, (blk_cell BO.out 5).trans rfl, (blk_cell BO.out 6).trans rfl, HCV.out _ HB.out⟩, G13, N13K, N13N, N13O, B13, BK, BN, BO, HB⟩)
          clear HB BK BN BO
          rintro g13 w6 ⟨hS_, G13, N13K, N13N, N13O, B13, BK, BN, BO, HB⟩
          have hHeld := hS_
          clear hS_
          refine norm_ (a' := ?_) ?_ ?_
          rotate_left
          · simp only [putAll, Act.put, List.setIfInBounds_toArray, List.set_cons_zero, List.set_cons_succ]
            rfl
          refine last_ (i := 14) (N := none) #[true, true, true, true, true, true, true, true, true, true, true, true, true, true, true, false] rfl rfl (by kernel_rfl) (by decide) (fun K hK => ?_)
          refine row_step (by rfl) rfl rfl (g := g13) #[.int .i64 o2.a0, .int .i64 o2.a1, .int .i64 o2.a2, .int .i64 o2.a3, .int .i64 o2.a4, .int .i64 o2.a5, .string o2.a6] rfl ?hy B13.out Zcs_info rfl (one_cells _ _ _ _ _ _ _) ?_
          (case hy => first | rfl | (go_simp; done) | (go_simp; rfl))
          intro w7 hrow ht
          have n0_ := Aside0.mk ((ht.block gb (blk_lt BK.out) (Ne.symm N13K.out)).trans BK.out)
          have n1_ := Aside0.mk ((ht.block gn (blk_lt BN.out) (Ne.symm N13N.out)).trans BN.out)
          have n2_ := Aside0.mk ((ht.block go (blk_lt BO.out) (Ne.symm N13O.out)).trans BO.out)
          have n3_ := Aside0.mk (ht.below HB.out G13.out (below_size HB.out))
          have n4_ := Aside0.mk (hrow)
          clear BK BN BO HB B13 hrow ht
          have BK := n0_
          have BN := n1_
          have BO := n2_
          have HB := n3_
          have B13 := n4_
          clear n0_ n1_ n2_ n3_ n4_
          refine hK.out _ _ ?_
          clear hK K
          refine pure_ (i := 15) (N := some 14) (v := ?_) (a' := ?_) #[true, true, true, true, true, true, true, true, true, true, true, true, true, true, true, true] rfl rfl (by kernel_rfl) (fun _ _ _ h => h) (Or.inl ⟨by rfl, ?_⟩) ?_ ?_
          rotate_left
          · intro w'
            go_simp
            with_reducible rfl
          rotate_left
          · simp only [Act.put, List.setIfInBounds_toArray, List.set_cons_zero, List.set_cons_succ, i64_w, i32_w]
            rfl
          refine done_ (by kernel_rfl) ?_
          cases b with
          | false =>
            have hr1 : (readP l wd o).1 = true := by have hp2 := HP2.out; cases hh : (readP l wd o).1 with | true => rfl | false => rw [hh] at hp2; cases hp2
            rw [if_pos hr1] at HR1
            have HR2 := Aside0.mk HR1
            clear HR1 HP2 HP3 hr1
            go_wp2_with (first | ((with_reducible refine gate_dst (N := 74) rfl ?_); refine load_event rfl (p := 5) rfl (g := gn) (cs := #[.int .i64 0, .int .i64 0, .int .i64 0, .int .i64 0, .int .i64 0, .int .i64 0, .string ⟨#[]⟩]) rfl BN.out rfl ?_) | ((with_reducible refine gate_store (p := 2) rfl ?_); refine row_event rfl rfl rfl (g := gb) #[.int .i64 0, .int .i64 0, .int .i64 0, .int .i64 0, .int .i64 0, .int .i64 0, .string ⟨#[]⟩] rfl ?hy BK.out Zcs_info rfl (one_cells _ _ _ _ _ _ _) ?_; (case hy => first | rfl | (go_simp; done) | (go_simp; rfl)); intro w4 hrow ht; have n0_ := Aside0.mk (hrow); have n1_ := Aside0.mk (ht.below HB.out GK.out (below_size HB.out)); clear BK HB hrow ht; have BK := n0_; have HB := n1_; clear n0_ n1_))
            ((try simp only [Exit.inBlock, Exit.then]); refine bodyPost_ret (ret_cell_tmp2 rfl _ _ gb _ rfl BK.out rfl) rfl ?_)
            rw [← HR2.out]
            exact ⟨rfl, HB.out⟩
          | true =>
            have hr1 : (readP l wd o).1 = false := by have hp2 := HP2.out; cases hh : (readP l wd o).1 with | false => rfl | true => rw [hh] at hp2; cases hp2
            rw [if_neg (by rw [hr1]; decide), HP3.out rfl] at HR1
            have HR2 := Aside0.mk HR1
            clear HR1 HP2 HP3 hr1
            go_wp2_with (first | ((with_reducible refine gate_dst (N := 76) rfl ?_); refine load_event rfl (p := 13) rfl (g := g13) (cs := #[.int .i64 o2.a0, .int .i64 o2.a1, .int .i64 o2.a2, .int .i64 o2.a3, .int .i64 o2.a4, .int .i64 o2.a5, .string o2.a6]) rfl B13.out rfl ?_) | ((with_reducible refine gate_store (p := 10) rfl ?_); refine row_event rfl rfl rfl (g := go) #[.int .i64 o2.a0, .int .i64 o2.a1, .int .i64 o2.a2, .int .i64 o2.a3, .int .i64 o2.a4, .int .i64 o2.a5, .string o2.a6] rfl ?hy BO.out Zcs_info rfl (one_cells _ _ _ _ _ _ _) ?_; (case hy => first | rfl | (go_simp; done) | (go_simp; rfl)); intro w4 hrow ht; have n0_ := Aside0.mk ((ht.block gb (blk_lt BK.out) (Ne.symm NOK.out)).trans BK.out); have n1_ := Aside0.mk ((ht.block gn (blk_lt BN.out) (Ne.symm NON.out)).trans BN.out); have n2_ := Aside0.mk (ht.below (B := w.heap.size) (a := w) HB.out GO.out (by first | exact below_size HB.out | exact Nat.le_of_lt (Nat.lt_of_le_of_lt GO.out (blk_lt BO.out)))); have n3_ := Aside0.mk (hrow); clear BK BN HB BO hrow ht; have BK := n0_; have BN := n1_; have HB := n2_; have BO := n3_; clear n0_ n1_ n2_ n3_))
            go_roundg (ls.length - (x.toNat + 1))
            case measure => exact left_x HI.out HX.out
            case rel => exact ⟨x + 1, e + 1 + wd.size, o2, (by first | rfl | (simp; done) | go_num | (simp [*]; done)), (by rw [← HEN2.out]; congr 1), ⟨left_x2 HI.out HX.out⟩, ⟨round_eq HI.out.1 HAT.out HR2.out⟩, ⟨round_dr HI.out.1 HD2.out⟩, BK, BN, BO, HB⟩
        · have lt1 : decide (x < (ls.length : Int)) = false := decide_eq_false hx
          have HR1 := HR.out
          rw [List.drop_eq_nil_of_le (by have := HI.out; omega), prun] at HR1
          have HR2 := Aside0.mk HR1
          clear HR1 HR
          go_wp2_with (first | ((with_reducible refine gate_dst (N := 77) rfl ?_); refine load_event rfl (p := 10) rfl (g := go) (cs := #[.int .i64 o.a0, .int .i64 o.a1, .int .i64 o.a2, .int .i64 o.a3, .int .i64 o.a4, .int .i64 o.a5, .string o.a6]) rfl BO.out rfl ?_) | ((with_reducible refine gate_store (p := 2) rfl ?_); refine row_event rfl rfl rfl (g := gb) #[.int .i64 o.a0, .int .i64 o.a1, .int .i64 o.a2, .int .i64 o.a3, .int .i64 o.a4, .int .i64 o.a5, .string o.a6] rfl ?hy BK.out Zcs_info rfl (one_cells _ _ _ _ _ _ _) ?_; (case hy => first | rfl | (go_simp; done) | (go_simp; rfl)); intro w4 hrow ht; have n0_ := Aside0.mk (hrow); have n1_ := Aside0.mk (ht.below HB.out GK.out (below_size HB.out)); clear BK HB hrow ht; have BK := n0_; have HB := n1_; clear n0_ n1_))
          ((try simp only [Exit.inBlock, Exit.then]); refine bodyPost_ret (ret_cell_tmp2 rfl _ _ gb _ rfl BK.out rfl) rfl ?_)
          rw [← HR2.out]
          exact ⟨rfl, HB.out⟩
theorem ref_c (A0 : Option Addr) (c0 : Nat) (l0 : List Int) (hby : ∀ x ∈ l0, 0 ≤ x ∧ x ≤ 255) (hc0 : l0.length ≤ c0) (w : World) (hr0 : Kd.C (Kd.int .u8) w A0 l0.length l0) (hrP : PowAt w) : Calls Tryz.prog 7 #[.slice A0 l0.length c0] w fun e w' => e = .returned (.tuple #[.agg (parseP (strOfNums l0)).o.cs, .int .i64 (PR.errno (parseP (strOfNums l0))), .int .i64 (PR.place (parseP (strOfNums l0)))]) ∧ Below w.heap.size w w' := by
  have hbs : byts (strOfNums l0) = l0 := byts_of hby
  have hsz : (strOfNums l0).size = l0.length := by rw [← byts_len, hbs]
  unfold parseP
  rw [hsz]
  by_cases hz : 100 < l0.length
  · rw [if_pos hz]
    exact ref_long A0 c0 l0 hc0 w hr0 hrP hz
  rw [if_neg hz]
  have hl := words_len (strOfNums l0)
  cases hw : wordsOf (strOfNums l0) with
  | nil => rw [hw] at hl; cases hl
  | cons w0 ws =>
    rw [parseW_cons, hsz]
    by_cases hk : kindP w0 = 0
    · rw [if_pos hk]
      exact ref_none A0 c0 l0 hc0 w hr0 hrP w0 ws _ hz hw hby rfl hk
    rw [if_neg hk]
    by_cases hn : ws.length = (shapeL (kindP w0)).length
    · rw [if_pos hn]
      exact ref_go A0 c0 l0 hc0 w hr0 hrP w0 ws _ hz hw hby rfl _ hk rfl hn _ rfl
    · rw [if_neg hn]
      exact ref_fields A0 c0 l0 hc0 w hr0 hrP w0 ws _ hz hw hby rfl _ hk rfl hn
end Go.Proofs.YtjhodgcjkobpoaaGreatDoor.FRefP
