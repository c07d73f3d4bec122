/- RowsN of bytes in blocks of their own, and tables of such rows: words for ScriptFresh; and what it calls, told in these words. Conditions: bytes are bytes. -/
import Derived.Test.YtpglakfafanhoaaNPl
import Derived.Test.YtpglakfafanhoaaPAx1
import Derived.Test.YtpglakfafanhoaaPAx2
import Derived.Test.YtpglakfafanhoaaPAx3
namespace Go.Proofs.Ytpglakfafanhoaa.NRows
open Go.RowKit Go.Proofs.YtpglakfafanhoaaW.PrintWords Go.Proofs.YtpglakfafanhoaaW.PrintLast Go.Proofs.YtpglakfafanhoaaW.PrintMore Go.Proofs.Ytpglakfafanhoaa.PA Go.Proofs.Ytpglakfafanhoaa.NPl
set_option linter.unusedVariables false
set_option linter.unusedSimpArgs false
/-- The cells of a row of bytes. -/
def RowL (cells : Array Value) (L : List Int) : Prop := ∀ j, j < L.length → cells[j]? = some (.int .u8 (L.getD j 0))
/-- The value v is the row L at the head of block g, which is its own to the end. -/
def Row1 (W : World) (v : Value) (L : List Int) (g : Nat) : Prop := ∃ c cells, v = .slice (some ⟨g, 0, none⟩) L.length c ∧ L.length ≤ c ∧ c ≤ maxLen ∧ W.heap[g]? = some (.cells cells 5 (0, 0)) ∧ cells.size = c ∧ RowL cells L
theorem Row1.kept {W W' : World} {v : Value} {L : List Int} {g : Nat} (h : Row1 W v L g) (hk : W'.heap[g]? = W.heap[g]?) : Row1 W' v L g := by
  obtain ⟨c, cells, h1, h2, h3, h4, h5, h6⟩ := h
  exact ⟨c, cells, h1, h2, h3, hk.trans h4, h5, h6⟩
theorem Row1.lt {W : World} {v : Value} {L : List Int} {g : Nat} (h : Row1 W v L g) : g < W.heap.size := by
  obtain ⟨c, cells, h1, h2, h3, h4, h5, h6⟩ := h
  exact blk_lt h4
theorem Row1.below {W W' : World} {v : Value} {L : List Int} {g : Nat} (h : Row1 W v L g) (hb : Below W.heap.size W W') : Row1 W' v L g := h.kept (hb.block _ h.lt)
theorem ad0 (g j : Nat) : (⟨g, 0, none⟩ : Addr).add j = ⟨g, j, none⟩ := by unfold Addr.add; split <;> simp
theorem C_row {W : World} {g n : Nat} {fz : Nat × Nat} {cells : Array Value} {l : List Int} (hb : W.heap[g]? = some (.cells cells 5 fz)) (hc : RowL cells l) (hn : l.length = n) (hm : n ≤ 9223372036854775807) : Kd.C (Kd.int .u8) W (some ⟨g, 0, none⟩) n l := by
  subst hn
  refine Kd.C_of_reads (d := (0 : Int)) (h1 := fun _ => rfl) ⟨rfl, hm, fun _ => ⟨_, rfl, fun j hj => ?_⟩⟩
  rw [ad0, cell_of_row W g j cells _ fz hb, hc j hj]
theorem Row1.C {W : World} {L : List Int} {g n c : Nat} {A : Option Addr} (h : Row1 W (.slice A n c) L g) : A = some ⟨g, 0, none⟩ ∧ n = L.length ∧ n ≤ c ∧ Kd.C (Kd.int .u8) W A n L := by
  obtain ⟨c', cells, h1, h2, h3, h4, h5, h6⟩ := h
  injection h1 with e1 e2 e3
  subst e1 e2 e3
  exact ⟨rfl, rfl, h2, C_row h4 h6 rfl (by unfold maxLen at h3; omega)⟩
theorem row1_of_R {W : World} {B : Nat} {ok : Nat → Prop} {v : Value} {L : List Int} (h : Kd.R (Kd.int .u8) 5 W B ok v L) (hp : 0 < L.length) : ∃ g, Row1 W v L g ∧ B ≤ g ∧ ok g := by
  obtain ⟨h0, inner, ⟨hl, hv⟩, hr⟩ := h
  rcases hv with ⟨_, e⟩ | ⟨g, cap, cur, rfl, hb, hg, hn, hm, hs, ht⟩
  · omega
  replace ht : cur.toList.take (L.length * 1) = inner := ht
  refine ⟨g, ⟨cap, cur, rfl, hn, hm, hg, by rw [hs]; exact Nat.mul_one _, fun j hj => ?_⟩, hb, h0 g rfl⟩
  have h2 : (inner.drop (j * 1)).take 1 = [.int .u8 L[j]] := hr.2 j L[j] (List.getElem?_eq_getElem hj)
  have h3 : inner[j]? = some (.int .u8 L[j]) := by
    have := congrArg (·[0]?) h2
    simpa [List.getElem?_take, List.getElem?_drop] using this
  rw [← ht, List.getElem?_take_of_lt (show j < L.length * 1 by omega), Array.getElem?_toList] at h3
  rw [h3, List.getD_eq_getElem?_getD, List.getElem?_eq_getElem hj]
  rfl
/-- A table (a row of rows) in block h. -/
def Tab (W : World) (h N : Nat) (vs : Nat → Value) : Prop := ∃ cells, W.heap[h]? = some (.cells cells 22 (0, 0)) ∧ ∀ j, j < N → cells[j]? = some (vs j)
def RowsN (W : World) (N : Nat) (vs : Nat → Value) (Ls : Nat → List Int) (bs : Nat → Nat) : Prop := ∀ j, j < N → Row1 W (vs j) (Ls j) (bs j)
def Inj (N : Nat) (bs : Nat → Nat) : Prop := ∀ i j, i < N → j < N → bs i = bs j → i = j
theorem Tab.kept {W W' : World} {h N : Nat} {vs : Nat → Value} (t : Tab W h N vs) (hk : W'.heap[h]? = W.heap[h]?) : Tab W' h N vs := by
  obtain ⟨cells, h1, h2⟩ := t
  exact ⟨cells, hk.trans h1, h2⟩
theorem Tab.lt {W : World} {h N : Nat} {vs : Nat → Value} (t : Tab W h N vs) : h < W.heap.size := by
  obtain ⟨cells, h1, h2⟩ := t
  exact blk_lt h1
theorem Tab.below {W W' : World} {h N : Nat} {vs : Nat → Value} (t : Tab W h N vs) (hb : Below W.heap.size W W') : Tab W' h N vs := t.kept (hb.block _ t.lt)
theorem Tab.cell {W : World} {h N : Nat} {vs : Nat → Value} (t : Tab W h N vs) (j : Nat) (hj : j < N) : W.cell? ⟨h, j, none⟩ = some (vs j) := by
  obtain ⟨cells, h1, h2⟩ := t
  rw [blk_cell h1, h2 j hj]
theorem RowsN.below {W W' : World} {N : Nat} {vs : Nat → Value} {Ls : Nat → List Int} {bs : Nat → Nat} (t : RowsN W N vs Ls bs) (hb : Below W.heap.size W W') : RowsN W' N vs Ls bs := fun j hj => (t j hj).below hb
theorem RowsN.kept {W W' : World} {N : Nat} {vs : Nat → Value} {Ls : Nat → List Int} {bs : Nat → Nat} (t : RowsN W N vs Ls bs) (hk : ∀ j, j < N → W'.heap[bs j]? = W.heap[bs j]?) : RowsN W' N vs Ls bs := fun j hj => (t j hj).kept (hk j hj)
theorem C_tab {W : World} {h N : Nat} {vs : Nat → Value} {bs : Nat → Nat} {Ls : List (List Int)} (hN : Ls.length = N) (hm : N ≤ 9223372036854775807) (t : Tab W h N vs) (r : RowsN W N vs (fun j => Ls.getD j []) bs) : Kd.C (Kd.slice 5 (Kd.int .u8)) W (some ⟨h, 0, none⟩) N Ls := by
  refine ⟨hN, hm, fun _ => ⟨_, rfl, fun j p hj => ?_⟩⟩
  obtain ⟨hjl, hp⟩ := List.getElem?_eq_some_iff.1 hj
  obtain ⟨c, cells, h1, h2, h3, h4, h5, h6⟩ := r j (by omega)
  have e : Ls.getD j [] = p := by rw [List.getD_eq_getElem?_getD, hj]; rfl
  simp only [e] at h1 h2 h6
  refine ⟨[vs j], rfl, ⟨some ⟨bs j, 0, none⟩, c, by rw [h1], h2, C_row h4 h6 rfl (by unfold maxLen at h3; omega)⟩, fun i u hu => ?_⟩
  match i, hu with
  | 0, hu =>
    obtain rfl := Option.some.inj hu
    show W.cell? ((⟨h, 0, none⟩ : Addr).add (j * 1 + 0)) = _
    rw [ad0, Nat.mul_one, Nat.add_zero]
    exact t.cell j (by omega)
  | i + 1, hu => simp at hu
theorem tab_of_S {W : World} {B : Nat} {ok : Nat → Prop} {v : Value} {Ls : List (List Int)} (h : Kd.S (Kd.slice 5 (Kd.int .u8)) 22 W B ok v Ls) (hp : 0 < Ls.length) (hf : ∀ l ∈ Ls, l ≠ []) :
    ∃ hh c vs bs, v = .slice (some ⟨hh, 0, none⟩) Ls.length c ∧ Ls.length ≤ c ∧ Ls.length ≤ 9223372036854775807 ∧ Tab W hh Ls.length vs ∧ RowsN W Ls.length vs (fun j => Ls.getD j []) bs ∧ Inj Ls.length bs ∧ B ≤ hh ∧ ∀ j, j < Ls.length → B ≤ bs j := by
  obtain ⟨f, h0, inner, ⟨hl, hv⟩, hr⟩ := h
  rw [List.length_zipIdx] at hl hv
  rcases hv with ⟨_, e⟩ | ⟨g, cap, cur, rfl, hb, hg, hn, hm, hs, ht⟩
  · omega
  replace ht : cur.toList.take (Ls.length * 1) = inner := ht
  have key : ∀ j, ∃ x : Value × Nat, j < Ls.length → cur[j]? = some x.1 ∧ Row1 W x.1 (Ls.getD j []) x.2 ∧ B ≤ x.2 ∧ f x.2 = j := fun j => by
    by_cases hj : j < Ls.length
    · have hz : Ls.zipIdx[j]? = some (Ls[j], j) := Kd.zip_at (List.getElem?_eq_getElem hj)
      obtain ⟨v, hv, hR⟩ := (hr.2 j (Ls[j], j) hz : ∃ v, (inner.drop (j * 1)).take 1 = [v] ∧ Kd.R (Kd.int .u8) 5 W B _ v Ls[j])
      have hne : 0 < Ls[j].length := List.length_pos_iff.2 (hf _ (List.getElem_mem hj))
      obtain ⟨b, hrow, hB, hok⟩ := row1_of_R hR hne
      have h3 : inner[j]? = some v := by
        have := congrArg (·[0]?) (show (inner.drop (j * 1)).take 1 = [v] from hv)
        simpa [List.getElem?_take, List.getElem?_drop] using this
      rw [← ht, List.getElem?_take_of_lt (show j < Ls.length * 1 by omega), Array.getElem?_toList] at h3
      refine ⟨(v, b), fun _ => ⟨h3, ?_, hB, hok.2⟩⟩
      rw [List.getD_eq_getElem?_getD, List.getElem?_eq_getElem hj]
      exact hrow
    · exact ⟨(undef, 0), fun h => absurd h hj⟩
  refine ⟨g, cap, fun j => (Classical.choose (key j)).1, fun j => (Classical.choose (key j)).2, rfl, hn, by unfold maxLen at hm; omega, ⟨cur, hg, fun j hj => (Classical.choose_spec (key j) hj).1⟩, fun j hj => (Classical.choose_spec (key j) hj).2.1, fun i j hi hj e => ?_, hb, fun j hj => (Classical.choose_spec (key j) hj).2.2.1⟩
  have h1 := (Classical.choose_spec (key i) hi).2.2.2
  have h2 := (Classical.choose_spec (key j) hj).2.2.2
  rw [← h1, ← h2]
  exact congrArg f e
/-- script.Lines, told in these words. -/
theorem lines_c (A : Option Addr) (c : Nat) (X : List Int) (n : Nat) (hn : X.length = n) (Ls : List (List Int)) (m : Nat) (hL : scan X [] = Ls) (hm : Ls.length = m) (hp : 0 < m) (hl : X.length < 4294967281) (hby : ∀ x ∈ X, 0 ≤ x ∧ x < 256) (w : World) (hC : Kd.C (Kd.int .u8) w A n X) (hc : n ≤ c) (hM : MaxAt w) :
    Calls Try.prog 6 #[.slice A n c] w fun e w' => ∃ h c vs bs, e = .returned (.slice (some ⟨h, 0, none⟩) m c) ∧ m ≤ c ∧ Tab w' h m vs ∧ RowsN w' m vs (fun j => Ls.getD j []) bs ∧ Inj m bs ∧ w.heap.size ≤ h ∧ (∀ j, j < m → w.heap.size ≤ bs j) ∧ Below w.heap.size w w' := by
  subst hn
  subst hm
  refine (script_Lines.calls A c X Ls w hC hc hM (by rw [lines_f hl hby, hL])).mono ?_
  rintro e w' ⟨v, rfl, hS, hb⟩
  obtain ⟨h, c', vs, bs, rfl, h1, h2, h3, h4, h5, h6, h7⟩ := tab_of_S hS hp (fun l hl => scan_full X [] l (hL ▸ hl))
  exact ⟨h, c', vs, bs, rfl, h1, h3, h4, h5, h6, h7, hb⟩
theorem copied_c (A : Option Addr) (c : Nat) (L : List Int) (n : Nat) (hn : L.length = n) (hp : 0 < n) (hl : n ≤ 1048576) (w : World) (hC : Kd.C (Kd.int .u8) w A n L) (hc : n ≤ c) :
    Calls Try.prog 10 #[.slice A n c] w fun e w' => ∃ g v, e = .returned v ∧ Row1 w' v L g ∧ Below w.heap.size w w' ∧ w.heap.size ≤ g := by
  subst hn
  obtain ⟨K, hK⟩ := Ev_out (copied_ev L hl)
  refine (arrearslaw18_copied.calls K A c L L w hC hc (hK K (Nat.le_refl _))).mono ?_
  rintro e w' ⟨v, rfl, hR, hb⟩
  obtain ⟨g, h1, h2, _⟩ := row1_of_R hR hp
  exact ⟨g, v, rfl, h1, hb, h2⟩
theorem same_c (A0 A1 : Option Addr) (c0 c1 : Nat) (L : List Int) (n n1 : Nat) (hn : L.length = n) (hn1 : L.length = n1) (hl : L.length ≤ 1048576) (w : World) (h0 : Kd.C (Kd.int .u8) w A0 n L) (hc0 : n ≤ c0) (h1 : Kd.C (Kd.int .u8) w A1 n1 L) (hc1 : n1 ≤ c1) :
    Calls Try.prog 9 #[.slice A0 n c0, .slice A1 n1 c1] w fun e w' => e = .returned (.bool true) ∧ Below w.heap.size w w' := by
  subst hn
  subst hn1
  obtain ⟨K, hK⟩ := Ev_out (same_ev L hl)
  refine (arrearslaw18_same.calls K A0 c0 L A1 c1 L true w h0 hc0 h1 hc1 (hK K (Nat.le_refl _))).mono ?_
  rintro e w' ⟨rfl, ⟨⟨nd, rfl⟩⟩⟩
  exact ⟨rfl, pw_below_drewN (Below.refl _ _) _⟩
theorem alike_c (A0 A1 : Option Addr) (c0 c1 : Nat) (L : List (List Int)) (n : Nat) (hn : L.length = n) (hl : L.length ≤ 1048576) (hll : ∀ l ∈ L, l.length ≤ 1048576) (w : World) (h0 : Kd.C (Kd.slice 5 (Kd.int .u8)) w A0 n L) (hc0 : n ≤ c0) (h1 : Kd.C (Kd.slice 5 (Kd.int .u8)) w A1 n L) (hc1 : n ≤ c1) :
    Calls Try.prog 7 #[.slice A0 n c0, .slice A1 n c1] w fun e w' => e = .returned (.bool true) ∧ Below w.heap.size w w' := by
  subst hn
  obtain ⟨K, hK⟩ := Ev_out (alike_ev L hl hll)
  refine (arrearslaw18_alike.calls K A0 c0 L A1 c1 L true w h0 hc0 h1 hc1 (hK K (Nat.le_refl _))).mono ?_
  rintro e w' ⟨rfl, ⟨⟨nd, rfl⟩⟩⟩
  exact ⟨rfl, pw_below_drewN (Below.refl _ _) _⟩
end Go.Proofs.Ytpglakfafanhoaa.NRows
