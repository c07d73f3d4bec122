/- What the walks of Script's laws share: bytes out of texts, script.Parse at a known answer, two operations alike. -/
import Derived.Test.YtjhodgcjkobpoaaGreatDoorYFInv
import Derived.Lib.ConvBytes
import Derived.Test.YtjhodgcjkobpoaaGreatDoorYPAx14
namespace Go.Proofs.YtjhodgcjkobpoaaGreatDoor.FLawK
open Go.RowKit Go.Proofs.YtjhodgcjkobpoaaGreatDoorW.PrintWords Go.Proofs.YtjhodgcjkobpoaaGreatDoorW.PrintLast Go.Proofs.YtjhodgcjkobpoaaGreatDoorW.PrintMore Go.Proofs.YtjhodgcjkobpoaaGreatDoor.PA Go.Proofs.YtjhodgcjkobpoaaGreatDoor.MB Go.Proofs.YtjhodgcjkobpoaaGreatDoor.MByt Go.Proofs.YtjhodgcjkobpoaaGreatDoor.FTell Go.Proofs.YtjhodgcjkobpoaaGreatDoor.FFields Go.Proofs.YtjhodgcjkobpoaaGreatDoor.FWhole Go.Proofs.YtjhodgcjkobpoaaGreatDoor.FRead Go.Proofs.YtjhodgcjkobpoaaGreatDoor.FReads Go.Proofs.YtjhodgcjkobpoaaGreatDoor.FKind Go.Proofs.YtjhodgcjkobpoaaGreatDoor.FFormat Go.Proofs.YtjhodgcjkobpoaaGreatDoor.FParse Go.Proofs.YtjhodgcjkobpoaaGreatDoor.FParse2 Go.Proofs.YtjhodgcjkobpoaaGreatDoor.FInv
set_option linter.unusedVariables false
set_option linter.unusedSimpArgs false
theorem str_byts (s : ByteArray) : strOfNums (byts s) = s := byts_inj (byts_of (fun x hx => by
  obtain ⟨b, _, rfl⟩ := List.mem_map.1 hx
  have := b.toNat_lt
  exact ⟨Int.natCast_nonneg _, by omega⟩))
theorem C_cells {w : World} {g : Nat} {xs : List Int} (hn : xs.length ≤ 9223372036854775807) (h : ∀ j, j < xs.length → w.cell? ⟨g, j, none⟩ = some (.int .u8 (xs.getD j 0))) : Kd.C (Kd.int .u8) w (some ⟨g, 0, none⟩) xs.length xs := by
  refine Kd.C_of_reads (enc := Value.int .u8) (d := (0 : Int)) (h1 := fun _ => rfl) ⟨rfl, hn, fun _ => ⟨⟨g, 0, none⟩, rfl, fun j hj => ?_⟩⟩
  have ha : (⟨g, 0, none⟩ : Addr).add j = ⟨g, 0 + j, none⟩ := by unfold Addr.add; split <;> simp_all
  rw [ha, Nat.zero_add]
  exact h j hj
section
variable {ops : Array Oper} {rest : List Oper} {o : Oper} {a : Act} {Q : Exit → Act → World → Prop} {W : World}
/-- The bytes of a constant text: a row, and its mark. -/
theorem lit_event (hgd : o.guard = none) {N : Tmp} (_hd : o.dst = some N) {xs : List Int} {n : Nat}
    (hrun : (execOp a.eval o).run Tryz.prog W = .ok (.value (.slice (some ⟨W.heap.size, 0, none⟩) n n)) (W.alloc (.cells (xs.map (Value.int .u8)).toArray 5 (0, 0))))
    (h : ∀ g, g = W.heap.size → ∀ w1, w1.heap[g]? = some (.cells (xs.map (Value.int .u8)).toArray 5 (0, 0)) → Below W.heap.size W w1 → wpList Tryz.prog ops Q rest (a.put o.dst (.slice (some ⟨g, 0, none⟩) n n)) w1) : wpList Tryz.prog ops Q (o :: rest) a W :=
  Kd.event_run hgd hrun (h _ rfl _ (blk_new W _) (below_alloc (Below.refl _ _) _))
theorem run_convert_mark {P : Program} (w : World) (t e : TypeId) (C : Array Value) (fr : Nat × Nat) (g n c : Nat) (hg : w.heap[g]? = some (.cells C e fr)) (ht : P.underlying t = some (.slice e)) (he : P.underlying e = some (.int .u8)) :
    (convert t t (.slice (some ⟨g, 0, none⟩) n c)).run P w = .ok (.slice (some ⟨g, 0, none⟩) n c) (w.freeze ⟨g, C.size, none⟩ 1) := by
  have hsh : w.shape? g = some (e, C.size) := by
    unfold World.shape?
    rw [hg]
  simp [convert, run_underlying ht, run_underlying he, markStringish, hsh]
theorem freeze_tz (W : World) (g k n : Nat) : Tz g W (W.freeze ⟨g, k, none⟩ n) := by
  unfold World.freeze
  split
  · exact Tz.of (Below.refl _ _)
  · exact ⟨rfl, rfl, rfl, by simp, fun i _ hi => by simp [Array.getElem?_modify, Ne.symm hi]⟩
theorem mark_event (hgd : o.guard = none) {N : Tmp} (_hd : o.dst = some N) {x : Operand} {g n c : Nat} (xs : List Int)
    (ho : o.op = .convert 22 22 x) (hx : a.eval x = .slice (some ⟨g, 0, none⟩) n c) (hn : xs.length = n) (hz : xs.length ≤ 1000) (hg : W.heap[g]? = some (.cells (xs.map (Value.int .u8)).toArray 5 (0, 0)))
    (h : ∀ w1, Kd.C (Kd.int .u8) w1 (some ⟨g, 0, none⟩) n xs → Tz g W w1 → wpList Tryz.prog ops Q rest (a.put o.dst (.slice (some ⟨g, 0, none⟩) n c)) w1) : wpList Tryz.prog ops Q (o :: rest) a W := by
  subst hn
  have hr := run_convert_mark (P := Tryz.prog) W 22 5 _ _ g xs.length c hg Tryz.underlying22 Tryz.underlying5
  refine Kd.event_run hgd (v := .slice (some ⟨g, 0, none⟩) xs.length c) (w1 := W.freeze ⟨g, (xs.map (Value.int .u8)).toArray.size, none⟩ 1) ?_ (h _ (C_cells (by omega) (fun j hj => ?_)) (freeze_tz _ _ _ _))
  · simp only [execOp, ho, hx]
    simp [hr]
  · have hrow : (W.freeze ⟨g, (xs.map (Value.int .u8)).toArray.size, none⟩ 1).heap[g]? = some (.cells (xs.map (Value.int .u8)).toArray 5 (xs.length, xs.length + 1)) := by
      simp [World.freeze, Array.getElem?_modify, hg]
    rw [cell_of_row _ g j _ _ _ hrow]
    simp [List.getD, hj]
/-- The bytes of a text that is no constant. -/
theorem conv_event (hgd : o.guard = none) {N : Tmp} (_hd : o.dst = some N) {x : Operand} (s : ByteArray) (xs : List Int) (n : Nat) (hxs : byts s = xs) (hn : xs.length = n) (hz : n ≤ 9223372036854775807)
    (ho : o.op = .convert 9 22 x) (hx : a.eval x = .string s)
    (h : ∀ g c w1, Kd.C (Kd.int .u8) w1 (some ⟨g, 0, none⟩) n xs → Below W.heap.size W w1 → W.heap.size ≤ g → wpList Tryz.prog ops Q rest (a.put o.dst (.slice (some ⟨g, 0, none⟩) n c)) w1) : wpList Tryz.prog ops Q (o :: rest) a W := by
  subst hxs hn
  have hr := Lib.run_convert_string_bytes (P := Tryz.prog) W 9 22 5 s Tryz.underlying9 Tryz.underlying22 Tryz.underlying5
  rw [show s.size = (byts s).length from (byts_len s).symm] at hr
  refine Kd.event_run hgd (v := .slice (some ⟨W.heap.size, 0, none⟩) (byts s).length (grownCap W (byts s).length 0 5)) (w1 := Lib.bytesWorld W 5 s) ?_ (h _ _ _ (C_cells hz (fun j hj => ?_)) ⟨?_, ?_, ?_, ?_, fun k hk => Lib.bytesWorld_at_old W _ s k hk⟩ (Nat.le_refl _))
  · simp only [execOp, ho, hx]
    simp [hr]
  · rw [byts_len] at hj
    rw [Lib.bytesWorld_cell W _ s j hj]
    unfold byts
    have hl : j < s.data.toList.length := by rw [Array.length_toList]; exact hj
    simp only [List.getD_eq_getElem?_getD, List.getElem?_map, List.getElem?_eq_getElem hl]
    rfl
  · exact (freeze_tz _ _ _ _).os.trans rfl
  · exact (freeze_tz _ _ _ _).tape.trans (below_alloc (below_drew (Below.refl W.heap.size W)) _).tape
  · exact (freeze_tz _ _ _ _).output.trans rfl
  · rw [Lib.bytesWorld_size]; omega
end
/-- script.Parse where an operation is read. -/
theorem parse_op_c (a0 a1 a2 a3 a4 a5 : Int) (a6 : ByteArray) (A : Option Addr) (c : Nat) (l : List Int) (n : Nat) (hn : l.length = n) (hr : parseP (strOfNums l) = .op ⟨a0, a1, a2, a3, a4, a5, a6⟩) (w : World) (hC : Kd.C (Kd.int .u8) w A n l) (hP : PowAt w) :
    Calls Tryz.prog 6 #[.slice A n c] w fun e w' => e = .returned (.tuple #[.agg #[.int .i64 a0, .int .i64 a1, .int .i64 a2, .int .i64 a3, .int .i64 a4, .int .i64 a5, .string a6], .int .i64 0, .int .i64 0]) ∧ Below w.heap.size w w' := by
  subst hn
  have := Parse_c A c l w hC hP
  rw [hr] at this
  exact this
/-- script.Parse where an error is found. -/
theorem parse_err_c (A : Option Addr) (c : Nat) (l : List Int) (n : Nat) (e0 p : Int) (hn : l.length = n) (hr : (parseP (strOfNums l)).o = Zo) (he : PR.errno (parseP (strOfNums l)) = e0) (hp : PR.place (parseP (strOfNums l)) = p) (w : World) (hC : Kd.C (Kd.int .u8) w A n l) (hP : PowAt w) :
    Calls Tryz.prog 6 #[.slice A n c] w fun e w' => e = .returned (.tuple #[.agg #[.int .i64 0, .int .i64 0, .int .i64 0, .int .i64 0, .int .i64 0, .int .i64 0, .string ⟨#[]⟩], .int .i64 e0, .int .i64 p]) ∧ Below w.heap.size w w' := by
  subst hn
  have := Parse_c A c l w hC hP
  rw [hr, he, hp] at this
  exact this
theorem equal_c (a0 a1 a2 a3 a4 a5 : Int) (a6 : ByteArray) (w : World) :
    Calls Tryz.prog 8 #[.agg #[.int .i64 a0, .int .i64 a1, .int .i64 a2, .int .i64 a3, .int .i64 a4, .int .i64 a5, .string a6], .agg #[.int .i64 a0, .int .i64 a1, .int .i64 a2, .int .i64 a3, .int .i64 a4, .int .i64 a5, .string a6]] w fun e w' => e = .returned (.bool true) ∧ Below w.heap.size w w' := by
  refine arrearslaw18_equal.calls a0 a1 a2 a3 a4 a5 a6 a0 a1 a2 a3 a4 a5 a6 true w ?_
  unfold arrearslaw18_equal.f
  rw [if_pos rfl, if_pos rfl, if_pos rfl, if_pos rfl, if_pos rfl, if_pos rfl, beq_self_eq_true]
theorem format_ok_c (a0 a1 a2 a3 a4 a5 : Int) (a6 t : ByteArray) (b : Bool) (h : fmtF a0 a1 a2 a3 a4 a5 a6 = some (t, b)) (w : World) (hP : PowAt w) :
    Calls Tryz.prog 11 #[.agg #[.int .i64 a0, .int .i64 a1, .int .i64 a2, .int .i64 a3, .int .i64 a4, .int .i64 a5, .string a6]] w fun e w' => e = .returned (.tuple #[.string t, .bool b]) ∧ Below w.heap.size w w' :=
  format_c a0 a1 a2 a3 a4 a5 a6 t b w hP h
end Go.Proofs.YtjhodgcjkobpoaaGreatDoor.FLawK
