/- script's fields: what the field of a letter reads into an operation, in every later world. -/
import Derived.Test.YtjhodgcjkobpoaaGreatDoorYFRead
import Derived.Test.YtjhodgcjkobpoaaGreatDoorYMText
namespace Go.Proofs.YtjhodgcjkobpoaaGreatDoor.FReads
open Go.RowKit Go.Proofs.YtjhodgcjkobpoaaGreatDoorW.PrintWords Go.Proofs.YtjhodgcjkobpoaaGreatDoorW.PrintLast Go.Proofs.YtjhodgcjkobpoaaGreatDoorW.PrintMore Go.Proofs.YtjhodgcjkobpoaaGreatDoor.PA Go.Proofs.YtjhodgcjkobpoaaGreatDoor.FTell Go.Proofs.YtjhodgcjkobpoaaGreatDoor.FFields Go.Proofs.YtjhodgcjkobpoaaGreatDoor.FWhole Go.Proofs.YtjhodgcjkobpoaaGreatDoor.FRead Go.Proofs.YtjhodgcjkobpoaaGreatDoor.MByt
set_option linter.unusedVariables false
set_option linter.unusedSimpArgs false
/-- An operation. -/
structure O where
  a0 : Int
  a1 : Int
  a2 : Int
  a3 : Int
  a4 : Int
  a5 : Int
  a6 : ByteArray
def O.cs (o : O) : Array Value := #[.int .i64 o.a0, .int .i64 o.a1, .int .i64 o.a2, .int .i64 o.a3, .int .i64 o.a4, .int .i64 o.a5, .string o.a6]
/-- It stands in the block g. -/
def OAt (w : World) (g : Nat) (o : O) : Prop := w.heap[g]? = some (.cells o.cs 25 (0, 0))
/-- The amount that a word writes. -/
def am (s : ByteArray) : Int × Bool := MText.pv (byts s)
/-- A field of a letter read: is it a fault, and the operation behind it. -/
def readP (l : Nat) (s : ByteArray) (o : O) : Bool × O :=
  if l = 65 then (if (am s).2 = true then (false, { o with a2 := (am s).1 }) else (true, o))
  else if l = 82 then ((wv s).isNone, { o with a3 := (wv s).getD 0 })
  else if l = 84 then (if s = ⟨#[108, 101, 118, 101, 108]⟩ then (false, { o with a5 := 0 }) else if s = ⟨#[101, 113, 117, 97, 108]⟩ then (false, { o with a5 := 1 }) else if s = ⟨#[98, 97, 108, 108, 111, 111, 110]⟩ then (false, { o with a5 := 2 }) else (true, o))
  else if l = 70 then (if s.toList = [] then (true, o) else (false, { o with a6 := s }))
  else if l = 76 then ((wv s).isNone, { o with a1 := (wv s).getD 0 })
  else if l = 67 then ((wv s).isNone, { o with a4 := (wv s).getD 0 })
  else ((wv s).isNone, { o with a5 := (wv s).getD 0 })
def errB (g : Nat) (b : Bool) : Value := if b = true then FAULT g else .nilIface
theorem errOf_B (g : Nat) (v : Option Int) : errOf g v = errB g v.isNone := by cases v <;> rfl
/-- What a read leaves. -/
def Read (l : Nat) (s : ByteArray) (o : O) (g : Nat) (W : World) (e : Ending) (w' : World) : Prop :=
  ∃ gf, e = .returned (errB gf (readP l s o).1) ∧ ((readP l s o).1 = true → w'.heap[gf]? = some (.cells #[.int .i64 182] 51 (0, 0)) ∧ W.heap.size ≤ gf) ∧ OAt w' g (readP l s o).2 ∧ Tz g W w'
theorem reads_c (l : Nat) (f1 f2 : Value) (w : World) (hf : Fld w l f1 f2) :
    ∃ g1 lb1 g2 lb2, f1 = .func (.func g1) #[] lb1 ∧ f2 = .func (.func g2) #[] lb2 ∧ (∀ args w, (callFunc g1 args).run Tryz.prog w = .ok (.enter g1 args) w) ∧
      ∀ (s : ByteArray) (o : O) (g : Nat) (W : World), s.size ≤ 9223372036854775807 → Below w.heap.size w W → PowAt W → OAt W g o → Calls Tryz.prog g1 (#[.string s, .pointer (some ⟨g, 0, none⟩)] ++ lb1) W (Read l s o g W) := by
  unfold Fld at hf
  rcases hf with ⟨rfl, b, hb0, hb, rfl, rfl⟩ | ⟨rfl, b, hb0, hb, rfl, rfl⟩ | ⟨rfl, b, hb0, hb, rfl, rfl⟩ | ⟨rfl, rfl, rfl⟩ | ⟨rfl, rfl, rfl⟩ | ⟨rfl, rfl, rfl⟩ | ⟨rfl, rfl, rfl⟩
  · refine ⟨_, _, _, _, rfl, rfl, enters_of Tryz.func49 (by kernel_rfl) rfl, fun s o g W hs hW hP hO => ?_⟩
    refine (loan_read o.a0 o.a1 o.a2 o.a3 o.a4 o.a5 o.a6 g s b W (Nat.lt_of_lt_of_le hb0 hW.size) ((hW.cell (p := ⟨b, 0, none⟩) hb0).trans hb) hO).mono ?_
    rintro e w' ⟨gf, rfl, h1, h2, h3, h4⟩
    unfold Read readP
    rw [if_neg (by decide), if_neg (by decide), if_neg (by decide), if_neg (by decide), if_pos rfl]
    exact ⟨gf, by rw [errOf_B], fun _ => ⟨h1, h2⟩, h3, h4⟩
  · refine ⟨_, _, _, _, rfl, rfl, enters_of Tryz.func49 (by kernel_rfl) rfl, fun s o g W hs hW hP hO => ?_⟩
    refine (count_read o.a0 o.a1 o.a2 o.a3 o.a4 o.a5 o.a6 g s b W (Nat.lt_of_lt_of_le hb0 hW.size) ((hW.cell (p := ⟨b, 0, none⟩) hb0).trans hb) hO).mono ?_
    rintro e w' ⟨gf, rfl, h1, h2, h3, h4⟩
    unfold Read readP
    rw [if_neg (by decide), if_neg (by decide), if_neg (by decide), if_neg (by decide), if_neg (by decide), if_pos rfl]
    exact ⟨gf, by rw [errOf_B], fun _ => ⟨h1, h2⟩, h3, h4⟩
  · refine ⟨_, _, _, _, rfl, rfl, enters_of Tryz.func49 (by kernel_rfl) rfl, fun s o g W hs hW hP hO => ?_⟩
    refine (days_read o.a0 o.a1 o.a2 o.a3 o.a4 o.a5 o.a6 g s b W (Nat.lt_of_lt_of_le hb0 hW.size) ((hW.cell (p := ⟨b, 0, none⟩) hb0).trans hb) hO).mono ?_
    rintro e w' ⟨gf, rfl, h1, h2, h3, h4⟩
    unfold Read readP
    rw [if_neg (by decide), if_neg (by decide), if_neg (by decide), if_neg (by decide), if_neg (by decide), if_neg (by decide)]
    exact ⟨gf, by rw [errOf_B], fun _ => ⟨h1, h2⟩, h3, h4⟩
  · refine ⟨_, _, _, _, rfl, rfl, enters_of Tryz.func53 (by kernel_rfl) rfl, fun s o g W hs hW hP hO => ?_⟩
    obtain ⟨k, hk⟩ := MText.parse_ev s hs
    have hk1 : money_Parse.f k s = some ((am s).1, (am s).2) := hk k (Nat.le_refl _)
    unfold Read readP
    rw [if_pos rfl]
    cases hq : (am s).2 with
    | true =>
      rw [if_pos rfl]
      refine (amount_ok o.a0 o.a1 o.a2 o.a3 o.a4 o.a5 o.a6 g s k (am s).1 W hO (by rw [hk1, hq])).mono ?_
      rintro e w' ⟨rfl, h3, h4⟩
      exact ⟨0, rfl, (fun h => by cases h), h3, h4⟩
    | false =>
      rw [if_neg (by decide)]
      refine (amount_bad o.a0 o.a1 o.a2 o.a3 o.a4 o.a5 o.a6 g s k (am s).1 W hO (by rw [hk1, hq])).mono ?_
      rintro e w' ⟨gf, rfl, h1, h2, h3, h4⟩
      exact ⟨gf, rfl, fun _ => ⟨h1, h2⟩, h3, h4⟩
  · refine ⟨_, _, _, _, rfl, rfl, enters_of Tryz.func57 (by kernel_rfl) rfl, fun s o g W hs hW hP hO => ?_⟩
    refine (rate_read o.a0 o.a1 o.a2 o.a3 o.a4 o.a5 o.a6 g s W hO).mono ?_
    rintro e w' ⟨gf, rfl, h1, h2, h3, h4⟩
    unfold Read readP
    rw [if_neg (by decide), if_pos rfl]
    exact ⟨gf, by rw [errOf_B], fun _ => ⟨h1, h2⟩, h3, h4⟩
  · refine ⟨_, _, _, _, rfl, rfl, enters_of Tryz.func59 (by kernel_rfl) rfl, fun s o g W hs hW hP hO => ?_⟩
    unfold Read readP
    rw [if_neg (by decide), if_neg (by decide), if_pos rfl]
    by_cases c0 : s = ⟨#[108, 101, 118, 101, 108]⟩
    · rw [if_pos c0]
      subst c0
      refine (plan_ok0 o.a0 o.a1 o.a2 o.a3 o.a4 o.a5 o.a6 g W hO hP).mono ?_
      rintro e w' ⟨rfl, h3, h4⟩
      exact ⟨0, rfl, (fun h => by cases h), h3, h4⟩
    by_cases c1 : s = ⟨#[101, 113, 117, 97, 108]⟩
    · rw [if_neg c0, if_pos c1]
      subst c1
      refine (plan_ok1 o.a0 o.a1 o.a2 o.a3 o.a4 o.a5 o.a6 g W hO hP).mono ?_
      rintro e w' ⟨rfl, h3, h4⟩
      exact ⟨0, rfl, (fun h => by cases h), h3, h4⟩
    by_cases c2 : s = ⟨#[98, 97, 108, 108, 111, 111, 110]⟩
    · rw [if_neg c0, if_neg c1, if_pos c2]
      subst c2
      refine (plan_ok2 o.a0 o.a1 o.a2 o.a3 o.a4 o.a5 o.a6 g W hO hP).mono ?_
      rintro e w' ⟨rfl, h3, h4⟩
      exact ⟨0, rfl, (fun h => by cases h), h3, h4⟩
    rw [if_neg c0, if_neg c1, if_neg c2]
    refine (plan_bad o.a0 o.a1 o.a2 o.a3 o.a4 o.a5 o.a6 g s W hO hP c0 c1 c2).mono ?_
    rintro e w' ⟨gf, rfl, h1, h2, h3, h4⟩
    exact ⟨gf, rfl, fun _ => ⟨h1, h2⟩, h3, h4⟩
  · refine ⟨_, _, _, _, rfl, rfl, enters_of Tryz.func61 (by kernel_rfl) rfl, fun s o g W hs hW hP hO => ?_⟩
    unfold Read readP
    rw [if_neg (by decide), if_neg (by decide), if_neg (by decide), if_pos rfl]
    by_cases c0 : s.toList = []
    · rw [if_pos c0]
      refine (letters_bad o.a0 o.a1 o.a2 o.a3 o.a4 o.a5 o.a6 g s W hO (List.isEmpty_iff.2 c0)).mono ?_
      rintro e w' ⟨gf, rfl, h1, h2, h3, h4⟩
      exact ⟨gf, rfl, fun _ => ⟨h1, h2⟩, h3, h4⟩
    · rw [if_neg c0]
      refine (letters_ok o.a0 o.a1 o.a2 o.a3 o.a4 o.a5 o.a6 g s W hO (Bool.eq_false_iff.2 (fun h => c0 (List.isEmpty_iff.1 h)))).mono ?_
      rintro e w' ⟨rfl, h3, h4⟩
      exact ⟨0, rfl, (fun h => by cases h), h3, h4⟩
end Go.Proofs.YtjhodgcjkobpoaaGreatDoor.FReads
