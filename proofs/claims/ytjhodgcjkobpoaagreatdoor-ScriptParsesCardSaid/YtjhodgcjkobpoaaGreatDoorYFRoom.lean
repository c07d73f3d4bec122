/- What the walk of ScriptParses calls: a copy with marks behind it, two rows alike, the two Parses at a known answer. Conditions: the tables stand as laid; bytes are bytes. -/
import Derived.Test.YtjhodgcjkobpoaaGreatDoorYFLawK
import Derived.Test.YtjhodgcjkobpoaaGreatDoorYFRefP
import Derived.Test.YtjhodgcjkobpoaaGreatDoorYPAx1
import Derived.Test.YtjhodgcjkobpoaaGreatDoorYPAx14
namespace Go.Proofs.YtjhodgcjkobpoaaGreatDoor.FRoom
open Go.RowKit Go.Proofs.YtjhodgcjkobpoaaGreatDoorW.PrintWords Go.Proofs.YtjhodgcjkobpoaaGreatDoorW.PrintLast Go.Proofs.YtjhodgcjkobpoaaGreatDoorW.PrintMore Go.Proofs.YtjhodgcjkobpoaaGreatDoor.PA Go.Proofs.YtjhodgcjkobpoaaGreatDoor.MB Go.Proofs.YtjhodgcjkobpoaaGreatDoor.MByt Go.Proofs.YtjhodgcjkobpoaaGreatDoor.FFormat Go.Proofs.YtjhodgcjkobpoaaGreatDoor.FReads Go.Proofs.YtjhodgcjkobpoaaGreatDoor.FParse Go.Proofs.YtjhodgcjkobpoaaGreatDoor.FParse2 Go.Proofs.YtjhodgcjkobpoaaGreatDoor.FInv Go.Proofs.YtjhodgcjkobpoaaGreatDoor.RefQ Go.Proofs.YtjhodgcjkobpoaaGreatDoor.FRefP
set_option linter.unusedVariables false
set_option linter.unusedSimpArgs false
def marks : List Int := [201, 202, 203]
theorem copied_at (L : List Int) (hL : L.length ≤ 1000000) : ∀ (d i k : Nat) (acc : List Int), i + d = L.length → d < k → acc.length = i → arrearslaw18_copied.l0 k L acc (i : Int) = some (acc ++ L.drop i)
  | 0, i, k, acc, hi, hk, ha => by
    obtain ⟨k, rfl⟩ : ∃ m, k = m + 1 := ⟨k - 1, by omega⟩
    unfold arrearslaw18_copied.l0
    rw [if_neg (by omega), List.drop_eq_nil_of_le (by omega), List.append_nil]
  | d + 1, i, k, acc, hi, hk, ha => by
    obtain ⟨k, rfl⟩ : ∃ m, k = m + 1 := ⟨k - 1, by omega⟩
    have hlt : i < L.length := by omega
    have hrd : L.getD i 0 = L[i] := by rw [List.getD_eq_getElem?_getD, List.getElem?_eq_getElem hlt]; rfl
    unfold arrearslaw18_copied.l0
    rw [if_pos (by omega), if_pos (by omega), if_pos (by omega), RefQ.rd_nat, hrd, show wrap64 ((i : Int) + 1) = ((i + 1 : Nat) : Int) by unfold wrap64; omega,
      copied_at L hL d (i + 1) k (acc ++ [L[i]]) (by omega) (by omega) (by rw [List.length_append]; simp; omega), List.append_assoc, List.drop_eq_getElem_cons hlt]
    rfl
theorem roomy_ev (L : List Int) (hL : L.length ≤ 1000000) : ∃ k, arrearslaw18_roomy.f k L = some (L ++ marks) := by
  refine ⟨L.length + 1, ?_⟩
  have h := copied_at L hL L.length 0 (L.length + 1) [] (by omega) (Nat.lt_succ_self _) rfl
  rw [List.drop_zero, List.nil_append] at h
  unfold arrearslaw18_roomy.f arrearslaw18_copied.f
  rw [show (0 : Int) = ((0 : Nat) : Int) from rfl, h, Option.bind_some, Option.bind_some, if_pos (by simp; omega)]
  rfl
theorem same_at (L : List Int) (hL : L.length ≤ 1000000) : ∀ (d i k : Nat), i + d = L.length → d < k → arrearslaw18_same.l0 k L L (i : Int) = some true
  | 0, i, k, hi, hk => by
    obtain ⟨k, rfl⟩ : ∃ m, k = m + 1 := ⟨k - 1, by omega⟩
    unfold arrearslaw18_same.l0
    rw [if_neg (by omega)]
  | d + 1, i, k, hi, hk => by
    obtain ⟨k, rfl⟩ : ∃ m, k = m + 1 := ⟨k - 1, by omega⟩
    unfold arrearslaw18_same.l0
    rw [if_pos (by omega), if_pos (by omega), if_pos (by omega), if_pos rfl, show wrap64 ((i : Int) + 1) = ((i + 1 : Nat) : Int) by unfold wrap64; omega]
    exact same_at L hL d (i + 1) k (by omega) (by omega)
theorem same_ev (L : List Int) (hL : L.length ≤ 1000000) : ∃ k, arrearslaw18_same.f k L L = some true := by
  refine ⟨L.length + 1, ?_⟩
  unfold arrearslaw18_same.f
  rw [if_pos rfl]
  exact same_at L hL L.length 0 (L.length + 1) (by omega) (Nat.lt_succ_self _)
/-- roomy: the bytes and the marks, in a row of their own. -/
theorem roomy_c (A0 : Option Addr) (c0 : Nat) (l0 : List Int) (hc0 : l0.length ≤ c0) (hl : l0.length ≤ 1000000) (w : World) (hr0 : Kd.C (Kd.int .u8) w A0 l0.length l0) :
    Calls Tryz.prog 5 #[.slice A0 l0.length c0] w fun e w' => ∃ g c, e = .returned (.slice (some ⟨g, 0, none⟩) (l0 ++ marks).length c) ∧ Kd.R (Kd.int .u8) 5 w' w.heap.size (fun _ => True) (.slice (some ⟨g, 0, none⟩) (l0 ++ marks).length c) (l0 ++ marks) ∧ Below w.heap.size w w' ∧ w.heap.size ≤ g := by
  obtain ⟨k, hk⟩ := roomy_ev l0 hl
  refine (arrearslaw18_roomy.calls k A0 c0 l0 _ w hr0 hc0 hk).mono ?_
  rintro e w' ⟨v, rfl, hR, hb⟩
  obtain ⟨g, c, rfl, hg, _⟩ := Kd.R_form hR (by rw [List.length_append]; show 0 < l0.length + 3; omega)
  exact ⟨g, c, rfl, hR, hb, hg⟩
theorem same_c (A0 : Option Addr) (c0 : Nat) (A1 : Option Addr) (c1 : Nat) (l : List Int) (hl : l.length ≤ 1000000) (hc0 : l.length ≤ c0) (hc1 : l.length ≤ c1) (w : World) (hr0 : Kd.C (Kd.int .u8) w A0 l.length l) (hr1 : Kd.C (Kd.int .u8) w A1 l.length l) :
    Calls Tryz.prog 9 #[.slice A0 l.length c0, .slice A1 l.length c1] w fun e w' => e = .returned (.bool true) ∧ Below w.heap.size w w' := by
  obtain ⟨k, hk⟩ := same_ev l hl
  refine (arrearslaw18_same.calls k A0 c0 l A1 c1 l true w hr0 hc0 hr1 hc1 hk).mono ?_
  rintro e w' ⟨rfl, ⟨⟨nd, rfl⟩⟩⟩
  exact ⟨rfl, pw_below_drewN (Below.refl _ _) _⟩
/-- What a line is read as, field by field. -/
def PAns (l : List Int) (a0 a1 a2 a3 a4 a5 : Int) (a6 : ByteArray) (er pl : Int) : Prop := (parseP (strOfNums l)).o = ⟨a0, a1, a2, a3, a4, a5, a6⟩ ∧ PR.errno (parseP (strOfNums l)) = er ∧ PR.place (parseP (strOfNums l)) = pl
theorem pAns (l : List Int) : ∃ a0 a1 a2 a3 a4 a5 a6 er pl, PAns l a0 a1 a2 a3 a4 a5 a6 er pl := by
  cases h : (parseP (strOfNums l)).o with
  | mk a0 a1 a2 a3 a4 a5 a6 => exact ⟨a0, a1, a2, a3, a4, a5, a6, _, _, h, rfl, rfl⟩
theorem parse_any (a0 a1 a2 a3 a4 a5 : Int) (a6 : ByteArray) (er pl : Int) (A : Option Addr) (c : Nat) (l : List Int) (n : Nat) (hn : l.length = n) (h : PAns l a0 a1 a2 a3 a4 a5 a6 er pl) (w : World) (hC : Kd.C (Kd.int .u8) w A n l) (hP : PowAt w) :
    Calls Tryz.prog 6 #[.slice A n c] w fun e w' => e = .returned (.tuple #[.agg #[.int .i64 a0, .int .i64 a1, .int .i64 a2, .int .i64 a3, .int .i64 a4, .int .i64 a5, .string a6], .int .i64 er, .int .i64 pl]) ∧ Below w.heap.size w w' := by
  subst hn
  have := Parse_c A c l w hC hP
  rw [h.1, h.2.1, h.2.2] at this
  exact this
theorem ref_any (a0 a1 a2 a3 a4 a5 : Int) (a6 : ByteArray) (er pl : Int) (A : Option Addr) (c : Nat) (l : List Int) (n : Nat) (hn : l.length = n) (hc : n ≤ c) (hb : ∀ x ∈ l, 0 ≤ x ∧ x ≤ 255) (h : PAns l a0 a1 a2 a3 a4 a5 a6 er pl) (w : World) (hC : Kd.C (Kd.int .u8) w A n l) (hP : PowAt w) :
    Calls Tryz.prog 7 #[.slice A n c] w fun e w' => e = .returned (.tuple #[.agg #[.int .i64 a0, .int .i64 a1, .int .i64 a2, .int .i64 a3, .int .i64 a4, .int .i64 a5, .string a6], .int .i64 er, .int .i64 pl]) ∧ Below w.heap.size w w' := by
  subst hn
  have := ref_c A c l hb hc w hC hP
  rw [h.1, h.2.1, h.2.2] at this
  exact this
end Go.Proofs.YtjhodgcjkobpoaaGreatDoor.FRoom
