/- The document's calls in memory: what arrearsref11's functions answer of a list that is held in a row of its own. Conditions: the list is not beyond all memory, its row lies from a block number on. -/
import Derived.Test.YtkbbngkfncbgkaaDoorZIQList
import Derived.Test.YtkbbngkfncbgkaaDoorZPAx4
import Derived.Test.YtkbbngkfncbgkaaDoorZPAx2
import Derived.Test.YtkbbngkfncbgkaaDoorZPAx3
import Derived.Test.YtkbbngkfncbgkaaDoorZPAx5
import Derived.Test.YtkbbngkfncbgkaaDoorZW
namespace Go.Proofs.YtkbbngkfncbgkaaDoor.UPlain
open Go.RowKit Go.Proofs.YtkbbngkfncbgkaaDoor.IQHeap Go.Proofs.YtkbbngkfncbgkaaDoor.IQWords Go.Proofs.YtkbbngkfncbgkaaDoor.IQOrd Go.Proofs.YtkbbngkfncbgkaaDoor.PA Go.Proofs.YtkbbngkfncbgkaaDoorW.PrintWords
set_option linter.unusedVariables false
set_option linter.unusedSimpArgs false
def sk (k : Ky) : S24 := ⟨k.d, k.l, k.k⟩
def si (x : It) : S76 := ⟨sk x.1, x.2⟩
theorem w1 {x : Nat} (h : x < 9000000000000000000) : wrap64 ((x : Int) + 1) = ((x + 1 : Nat) : Int) := by
  unfold wrap64
  omega
theorem rd_mid (P S : List It) (x : It) : rd_T76 ((P ++ x :: S).map si) (P.length : Int) = si x := by
  unfold rd_T76
  rw [Int.toNat_natCast, List.getD_eq_getElem?_getD, List.getElem?_map, List.getElem?_append_right (Nat.le_refl _), Nat.sub_self]
  rfl
theorem same_is (a b : Ky) : arrearsref11_same.f a.d a.l a.k b.d b.l b.k = some (decide (a = b)) := by
  unfold arrearsref11_same.f
  obtain ⟨a0, a1, a2⟩ := a
  obtain ⟨b0, b1, b2⟩ := b
  by_cases h0 : a0 = b0
  · by_cases h1 : a1 = b1
    · subst h0 h1
      simp
      rfl
    · simp [h0, h1]
  · simp [h0]
theorem same2_is (a b : Ky) : arrearslaw11_same.f a.d a.l a.k b.d b.l b.k = some (decide (a = b)) := by
  unfold arrearslaw11_same.f
  obtain ⟨a0, a1, a2⟩ := a
  obtain ⟨b0, b1, b2⟩ := b
  by_cases h0 : a0 = b0
  · by_cases h1 : a1 = b1
    · subst h0 h1
      simp
      rfl
    · simp [h0, h1]
  · simp [h0]
theorem before_is (a b : Ky) : arrearsref11_Before.f a.d a.l a.k b.d b.l b.k = some (ltK a b) := by
  unfold arrearsref11_Before.f ltK
  split
  · split <;> rfl
  · rfl
/-! Get. -/
def getF (k : Ky) : List It → Int × Bool
  | [] => (0, false)
  | x :: r => if x.1 = k then (x.2, true) else getF k r
theorem get_ev (k : Ky) : ∀ (S P L : List It), L = P ++ S → L.length < 4000000000000 → Ev (fun n => arrearsref11_Get.l0 n (L.map si) (P.length : Int) k.d k.l k.k) (getF k S)
  | [], P, L, e, hl => by
    subst e
    refine Ev.step (fun n => ?_) (Ev.now _)
    simp only [arrearsref11_Get.l0]
    rw [if_neg (by simp)]
    rfl
  | x :: r, P, L, e, hl => by
    have ih := get_ev k r (P ++ [x]) L (by rw [e]; simp) hl
    have hp : P.length < L.length := by rw [e]; simp
    have hrd : rd_T76 (L.map si) (P.length : Int) = si x := by rw [e]; exact rd_mid P r x
    unfold getF
    by_cases hk : x.1 = k
    · rw [if_pos hk]
      refine Ev.step (fun n => ?_) (Ev.now _)
      simp only [arrearsref11_Get.l0]
      rw [if_pos (by rw [List.length_map]; omega), if_pos (by omega), hrd]
      rw [show arrearsref11_same.f (si x).f0.f0 (si x).f0.f1 (si x).f0.f2 k.d k.l k.k = some (decide (x.1 = k)) from same_is x.1 k, Option.bind_some, decide_eq_true hk, if_pos rfl]
      rfl
    · rw [if_neg hk]
      refine Ev.step (fun n => ?_) ih
      simp only [arrearsref11_Get.l0]
      rw [if_pos (by rw [List.length_map]; omega), if_pos (by omega), hrd]
      rw [show arrearsref11_same.f (si x).f0.f0 (si x).f0.f1 (si x).f0.f2 k.d k.l k.k = some (decide (x.1 = k)) from same_is x.1 k, Option.bind_some, decide_eq_false hk, if_neg (by decide), w1 (by omega)]
      simp
theorem get_f (k : Ky) (X : List It) (hl : X.length < 4000000000000) : Ev (fun n => arrearsref11_Get.f n (X.map si) k.d k.l k.k) (getF k X) := get_ev k X [] X rfl hl
/-! with. -/
def wI (k : Ky) (v : Int) : List It → List It
  | [] => [(k, v)]
  | x :: r => if ltK k x.1 = true then (k, v) :: x :: r else x :: wI k v r
theorem with_ev2 (k : Ky) (v : Int) : ∀ (S P L : List It) (acc : List It), L = P ++ S → L.length < 4000000000000 → acc.length ≤ P.length + 1 → Ev (fun n => arrearsref11_with.l0 n (L.map si) v (acc.map si) true (P.length : Int) k.d k.l k.k) ((acc ++ S).map si)
  | [], P, L, acc, e, hl, ha => by
    subst e
    refine Ev.step (fun n => ?_) (Ev.now _)
    simp only [arrearsref11_with.l0]
    rw [if_neg (by simp), if_pos True.intro]
    simp
  | x :: r, P, L, acc, e, hl, ha => by
    have ih := with_ev2 k v r (P ++ [x]) L (acc ++ [x]) (by rw [e]; simp) hl (by simp; omega)
    have hp : P.length < L.length := by rw [e]; simp
    have hrd : rd_T76 (L.map si) (P.length : Int) = si x := by rw [e]; exact rd_mid P r x
    rw [List.append_assoc, List.singleton_append] at ih
    refine Ev.step (fun n => ?_) ih
    simp only [arrearsref11_with.l0]
    rw [if_pos (by rw [List.length_map]; omega), if_pos True.intro, if_pos (by omega), if_pos (by rw [List.length_map]; omega), hrd, w1 (by omega)]
    simp [si, sk]
theorem with_ev (k : Ky) (v : Int) : ∀ (S P L : List It), L = P ++ S → L.length < 4000000000000 → Ev (fun n => arrearsref11_with.l0 n (L.map si) v (P.map si) false (P.length : Int) k.d k.l k.k) ((P ++ wI k v S).map si)
  | [], P, L, e, hl => by
    subst e
    refine Ev.step (fun n => ?_) (Ev.now _)
    simp only [arrearsref11_with.l0]
    rw [if_neg (by simp), if_neg (by decide), if_pos (by rw [List.length_map]; simp at hl; omega)]
    simp [wI, si, sk]
  | x :: r, P, L, e, hl => by
    have hp : P.length < L.length := by rw [e]; simp
    have hrd : rd_T76 (L.map si) (P.length : Int) = si x := by rw [e]; exact rd_mid P r x
    have hb : arrearsref11_Before.f k.d k.l k.k (si x).f0.f0 (si x).f0.f1 (si x).f0.f2 = some (ltK k x.1) := before_is k x.1
    unfold wI
    by_cases hk : ltK k x.1 = true
    · have ih := with_ev2 k v r (P ++ [x]) L (P ++ [(k, v), x]) (by rw [e]; simp) hl (by simp)
      rw [if_pos hk]
      have e2 : P ++ [(k, v), x] ++ r = P ++ (k, v) :: x :: r := by simp
      rw [e2] at ih
      refine Ev.step (fun n => ?_) ih
      simp only [arrearsref11_with.l0]
      rw [if_pos (by rw [List.length_map]; omega), if_neg (by decide), if_pos (by omega), hrd, hb, Option.bind_some, hk, if_pos rfl, if_pos (by rw [List.length_map]; omega), Option.bind_some, if_pos (by rw [List.length_append, List.length_map]; simp; omega), w1 (by omega)]
      simp [si, sk]
    · have ih := with_ev k v r (P ++ [x]) L (by rw [e]; simp) hl
      rw [if_neg hk]
      rw [List.append_assoc, List.singleton_append] at ih
      refine Ev.step (fun n => ?_) ih
      simp only [arrearsref11_with.l0]
      rw [if_pos (by rw [List.length_map]; omega), if_neg (by decide), if_pos (by omega), hrd, hb, Option.bind_some, if_neg hk, if_pos (by rw [List.length_map]; omega), w1 (by omega)]
      simp [si, sk]
theorem with_f (k : Ky) (v : Int) (X : List It) (hl : X.length < 4000000000000) : Ev (fun n => arrearsref11_with.f n (X.map si) k.d k.l k.k v) ((wI k v X).map si) := with_ev k v X [] X rfl hl
/-! without. -/
def ne (k : Ky) (x : It) : Bool := !decide (x.1 = k)
theorem without_ev (k : Ky) : ∀ (S P L acc : List It), L = P ++ S → L.length < 4000000000000 → acc.length ≤ P.length → Ev (fun n => arrearsref11_without.l0 n (L.map si) (acc.map si) (P.length : Int) k.d k.l k.k) ((acc ++ S.filter (ne k)).map si)
  | [], P, L, acc, e, hl, ha => by
    subst e
    refine Ev.step (fun n => ?_) (Ev.now _)
    simp only [arrearsref11_without.l0]
    rw [if_neg (by simp)]
    simp
  | x :: r, P, L, acc, e, hl, ha => by
    have hp : P.length < L.length := by rw [e]; simp
    have hrd : rd_T76 (L.map si) (P.length : Int) = si x := by rw [e]; exact rd_mid P r x
    have hs : arrearsref11_same.f (si x).f0.f0 (si x).f0.f1 (si x).f0.f2 k.d k.l k.k = some (decide (x.1 = k)) := same_is x.1 k
    by_cases hk : x.1 = k
    · have ih := without_ev k r (P ++ [x]) L acc (by rw [e]; simp) hl (by simp; omega)
      have e2 : (x :: r).filter (ne k) = r.filter (ne k) := by rw [List.filter_cons, if_neg (by simp [ne, hk])]
      rw [e2]
      refine Ev.step (fun n => ?_) ih
      simp only [arrearsref11_without.l0]
      rw [if_pos (by rw [List.length_map]; omega), if_pos (by omega), hrd, hs, Option.bind_some, decide_eq_true hk, if_pos rfl, w1 (by omega)]
      simp
    · have ih := without_ev k r (P ++ [x]) L (acc ++ [x]) (by rw [e]; simp) hl (by simp; omega)
      have e2 : (x :: r).filter (ne k) = x :: r.filter (ne k) := by rw [List.filter_cons, if_pos (by simp [ne, hk])]
      rw [e2]
      rw [List.append_assoc, List.singleton_append] at ih
      refine Ev.step (fun n => ?_) ih
      simp only [arrearsref11_without.l0]
      rw [if_pos (by rw [List.length_map]; omega), if_pos (by omega), hrd, hs, Option.bind_some, decide_eq_false hk, if_neg (by decide), if_pos (by rw [List.length_map]; omega), w1 (by omega)]
      simp [si, sk]
theorem without_f (k : Ky) (X : List It) (hl : X.length < 4000000000000) : Ev (fun n => arrearsref11_without.f n (X.map si) k.d k.l k.k) ((X.filter (ne k)).map si) := without_ev k X [] X [] rfl hl (Nat.le_refl _)
/-! The others. -/
def putF (k : Ky) (v : Int) (X : List It) : List It × Int := if (getF k X).2 = true then (X, 110) else (wI k v X, 0)
theorem put_f (k : Ky) (v : Int) (X : List It) (hl : X.length < 4000000000000) : Ev (fun n => arrearsref11_Put.f n (X.map si) k.d k.l k.k v) ((putF k v X).1.map si, (putF k v X).2) := by
  unfold putF
  refine Ev.congr (fun n => rfl) (Ev.bind (get_f k X hl) ?_)
  split
  · exact Ev.now _
  · exact Ev.bind (f := fun n t => some (t, 0)) (with_f k v X hl) (Ev.now _)
theorem cancel_f (k : Ky) (X : List It) (hl : X.length < 4000000000000) : Ev (fun n => arrearsref11_Cancel.f n (X.map si) k.d k.l k.k) ((X.filter (ne k)).map si, (getF k X).2) :=
  Ev.congr (fun n => rfl) (Ev.bind (get_f k X hl) (Ev.bind (without_f k X hl) (Ev.now _)))
def moveF (k : Ky) (day : Int) (X : List It) : List It × Int :=
  if (getF k X).2 = true then (if day = k.d then (X, 0) else if (getF ⟨day, k.l, k.k⟩ X).2 = true then (X, 110) else (wI ⟨day, k.l, k.k⟩ (getF k X).1 (X.filter (ne k)), 0)) else (X, 110)
theorem move_f (k : Ky) (day : Int) (X : List It) (hl : X.length < 4000000000000) : Ev (fun n => arrearsref11_Move.f n (X.map si) k.d k.l k.k day) ((moveF k day X).1.map si, (moveF k day X).2) := by
  have hl2 : (X.filter (ne k)).length < 4000000000000 := Nat.lt_of_le_of_lt (List.length_filter_le _ _) hl
  unfold moveF
  refine Ev.congr (fun n => rfl) (Ev.bind (get_f k X hl) ?_)
  by_cases h1 : (getF k X).2 = true
  · rw [if_pos h1]
    by_cases h2 : day = k.d
    · rw [if_pos h2]
      refine Ev.congr (fun n => ?_) (Ev.now _)
      rw [if_pos h1, if_pos h2]
    · rw [if_neg h2]
      refine Ev.congr (fun n => by rw [if_pos h1, if_neg h2]) (Ev.bind (get_f ⟨day, k.l, k.k⟩ X hl) ?_)
      by_cases h3 : (getF ⟨day, k.l, k.k⟩ X).2 = true
      · rw [if_pos h3]
        refine Ev.congr (fun n => ?_) (Ev.now _)
        rw [if_pos h3]
      · rw [if_neg h3]
        refine Ev.congr (fun n => by rw [if_neg h3]) (Ev.bind (f := fun n t => (arrearsref11_with.f n t day k.l k.k (getF k X).1).bind fun t => some (t, 0)) (without_f k X hl) (Ev.bind (f := fun n t => some (t, 0)) (with_f ⟨day, k.l, k.k⟩ _ _ hl2) (Ev.now _)))
  · rw [if_neg h1]
    refine Ev.congr (fun n => ?_) (Ev.now _)
    rw [if_neg h1]
def popR (day : Int) : List It → List It × It × Bool
  | [] => ([], d0, false)
  | x :: r => if x.1.d > day then (x :: r, d0, false) else ((x :: r).filter (ne x.1), x, true)
theorem pop_f (day : Int) (X : List It) (hl : X.length < 4000000000000) : Ev (fun n => arrearsref11_PopDue.f n (X.map si) day) ((popR day X).1.map si, (popR day X).2.1.1.d, (popR day X).2.1.1.l, (popR day X).2.1.1.k, (popR day X).2.1.2, (popR day X).2.2) := by
  match X, hl with
  | [], _ => exact Ev.now _
  | x :: r, hl =>
    have h0 : rd_T76 ((x :: r).map si) 0 = si x := rfl
    simp only [popR]
    by_cases h1 : x.1.d > day
    · rw [if_pos h1]
      refine Ev.congr (fun n => ?_) (Ev.now _)
      unfold arrearsref11_PopDue.f
      rw [if_neg (by simp; omega), if_pos (by simp), h0, if_pos (show (si x).f0.f0 > day from h1)]
      rfl
    · rw [if_neg h1]
      refine Ev.congr (f := fun n => (arrearsref11_without.f n ((x :: r).map si) x.1.d x.1.l x.1.k).bind fun t => some (t, x.1.d, x.1.l, x.1.k, x.2, true)) (fun n => ?_) (Ev.bind (without_f x.1 (x :: r) hl) (Ev.now _))
      unfold arrearsref11_PopDue.f
      rw [if_neg (by simp; omega), if_pos (by simp), h0, if_neg (show ¬ (si x).f0.f0 > day from h1)]
      rfl
theorem listed_ev : ∀ (S P L : List It), L = P ++ S → L.length < 4000000000000 → Ev (fun n => arrearslaw11_listed.l0 n (L.map fun x => sk x.1) (L.map si) (P.length : Int)) true
  | [], P, L, e, hl => by
    subst e
    refine Ev.step (fun n => ?_) (Ev.now _)
    simp only [arrearslaw11_listed.l0]
    rw [if_neg (by simp)]
  | x :: r, P, L, e, hl => by
    have ih := listed_ev r (P ++ [x]) L (by rw [e]; simp) hl
    have hp : P.length < L.length := by rw [e]; simp
    have hrd : rd_T76 (L.map si) (P.length : Int) = si x := by rw [e]; exact rd_mid P r x
    have hrk : rd_T24 (L.map fun x => sk x.1) (P.length : Int) = sk x.1 := by
      rw [e]
      unfold rd_T24
      rw [Int.toNat_natCast, List.getD_eq_getElem?_getD, List.getElem?_map, List.getElem?_append_right (Nat.le_refl _), Nat.sub_self]
      rfl
    refine Ev.step (fun n => ?_) ih
    simp only [arrearslaw11_listed.l0]
    rw [if_pos (by rw [List.length_map]; omega), if_pos (by omega), if_pos (by rw [List.length_map]; omega), hrd, hrk]
    rw [show arrearslaw11_same.f (sk x.1).f0 (sk x.1).f1 (sk x.1).f2 (si x).f0.f0 (si x).f0.f1 (si x).f0.f2 = some (decide (x.1 = x.1)) from same2_is x.1 x.1, Option.bind_some, decide_eq_true rfl, if_pos rfl, w1 (by omega)]
    simp
theorem listed_f (X : List It) (hl : X.length < 4000000000000) : Ev (fun n => arrearslaw11_listed.f n (X.map fun x => sk x.1) (X.map si)) true := by
  refine Ev.congr (fun n => ?_) (listed_ev X [] X rfl hl)
  unfold arrearslaw11_listed.f
  rw [if_pos (by simp)]
  rfl
end Go.Proofs.YtkbbngkfncbgkaaDoor.UPlain

namespace Go.Proofs.YtkbbngkfncbgkaaDoor.URel
open Go.RowKit Go.Proofs.YtkbbngkfncbgkaaDoor.IQHeap Go.Proofs.YtkbbngkfncbgkaaDoor.IQWords Go.Proofs.YtkbbngkfncbgkaaDoor.IQOrd Go.Proofs.YtkbbngkfncbgkaaDoor.UPlain
set_option linter.unusedVariables false
set_option linter.unusedSimpArgs false
theorem ltK_ne {a b : Ky} (h : ltK a b = true) : a ≠ b := fun e => by
  rw [e, ltK_iff] at h
  omega
theorem ltK_tr {a b c : Ky} (h1 : ltK a b = true) (h2 : ltK b c = true) : ltK a c = true := by
  rw [ltK_iff] at *
  omega
section
variable {V : Type}
def Srt (X : List (Ky × V)) : Prop := X.Pairwise fun a b => ltK a.1 b.1 = true
def Nk (X : List (Ky × V)) : Prop := (X.map (·.1)).Nodup
def nek (k : Ky) (x : Ky × V) : Bool := !decide (x.1 = k)
theorem Srt.nk {X : List (Ky × V)} (h : Srt X) : Nk X := by
  unfold Nk
  rw [List.nodup_iff_pairwise_ne, List.pairwise_map]
  exact h.imp fun h => ltK_ne h
theorem Srt.filter {X : List (Ky × V)} (h : Srt X) (p : Ky × V → Bool) : Srt (X.filter p) := List.Pairwise.filter p h
theorem same_item {X : List (Ky × V)} (hn : Nk X) {x y : Ky × V} (hx : x ∈ X) (hy : y ∈ X) (e : x.1 = y.1) : x = y := by
  induction X with
  | nil => cases hx
  | cons z r ih =>
    unfold Nk at hn
    rw [List.map_cons, List.nodup_cons] at hn
    rcases List.mem_cons.1 hx with hx | hx
    · rcases List.mem_cons.1 hy with hy | hy
      · rw [hx, hy]
      · exact absurd (List.mem_map.2 ⟨y, hy, by rw [← e, hx]⟩) hn.1
    · rcases List.mem_cons.1 hy with hy | hy
      · exact absurd (List.mem_map.2 ⟨x, hx, by rw [e, hy]⟩) hn.1
      · exact ih hn.2 hx hy
theorem filter_all {X : List (Ky × V)} {k : Ky} (h : ∀ x ∈ X, x.1 ≠ k) : X.filter (nek k) = X := List.filter_eq_self.2 fun x hx => by simp [nek, h x hx]
theorem filter_perm {X : List (Ky × V)} (hn : Nk X) {x : Ky × V} (hx : x ∈ X) : (x :: X.filter (nek x.1)).Perm X := by
  induction X with
  | nil => cases hx
  | cons z r ih =>
    unfold Nk at hn
    rw [List.map_cons, List.nodup_cons] at hn
    rcases List.mem_cons.1 hx with hx | hx
    · subst hx
      rw [List.filter_cons, if_neg (by simp [nek]), filter_all]
      intro y hy e
      exact hn.1 (List.mem_map.2 ⟨y, hy, e⟩)
    · rw [List.filter_cons, if_pos (by
        simp only [nek, Bool.not_eq_true', decide_eq_false_iff_not]
        intro e
        exact hn.1 (List.mem_map.2 ⟨x, hx, e.symm⟩))]
      exact (List.Perm.swap z x _).trans ((ih hn.2 hx).cons z)
theorem head_filter {x : Ky × V} {r : List (Ky × V)} (h : Srt (x :: r)) : (x :: r).filter (nek x.1) = r := by
  unfold Srt at h
  rw [List.pairwise_cons] at h
  rw [List.filter_cons, if_neg (by simp [nek]), filter_all]
  intro y hy e
  exact ltK_ne (h.1 y hy) e.symm
variable {lt : Ky × V → Ky × V → Bool} {d : Ky × V}
theorem mem_at {L : List (Ky × V)} {i : Nat} (h : i < L.length) : at_ d L i ∈ L := by rw [at_eq d L h]; exact List.getElem_mem h
theorem at_of {L : List (Ky × V)} {x : Ky × V} (h : x ∈ L) : ∃ i, i < L.length ∧ at_ d L i = x := by
  obtain ⟨i, hi, e⟩ := List.mem_iff_getElem.1 h
  exact ⟨i, hi, by rw [at_eq d L hi]; exact e⟩
/-- The queue's row holds what the list holds; the row is a heap, the list is in order. -/
structure Rel (lt : Ky × V → Ky × V → Bool) (d : Ky × V) (L X : List (Ky × V)) : Prop where
  p : L.Perm X
  h : HP lt d L
  s : Srt X
theorem Rel.nil : Rel lt d [] [] := ⟨List.Perm.refl _, fun j _ h => absurd h (Nat.not_lt_zero _), List.Pairwise.nil⟩
theorem Rel.len {L X : List (Ky × V)} (h : Rel lt d L X) : L.length = X.length := h.p.length_eq
theorem Rel.no {L X : List (Ky × V)} (h : Rel lt d L X) {k : Ky} (hno : ∀ x ∈ X, x.1 ≠ k) : ∀ i, i < L.length → (at_ d L i).1 ≠ k := fun i hi => hno _ (h.p.mem_iff.1 (mem_at hi))
theorem Rel.yes {L X : List (Ky × V)} (h : Rel lt d L X) {x : Ky × V} (hx : x ∈ X) : ∃ i, i < L.length ∧ at_ d L i = x := at_of (h.p.mem_iff.2 hx)
theorem Rel.push {L X Y : List (Ky × V)} (h : Rel lt d L X) (W : WO lt) {x : Ky × V} (hp : Y.Perm (x :: X)) (hs : Srt Y) : Rel lt d (pushF lt d L x) Y :=
  ⟨((pushF_perm L x).trans (h.p.cons x)).trans hp.symm, pushF_HP W h.h x, hs⟩
theorem Rel.take {L X : List (Ky × V)} (h : Rel lt d L X) (W : WO lt) {i : Nat} (hi : i < L.length) {k : Ky} (hk : (at_ d L i).1 = k) : Rel lt d (takeF lt d L i) (X.filter (nek k)) := by
  subst hk
  refine ⟨?_, takeF_HP W h.h hi, h.s.filter _⟩
  have h1 := takeF_perm (lt := lt) (d := d) hi
  have h2 := filter_perm h.s.nk (h.p.mem_iff.1 (mem_at (d := d) hi))
  exact (List.perm_cons _).1 ((h1.trans h.p).trans h2.symm)
theorem Rel.head {L r : List (Ky × V)} {x : Ky × V} (hlt : ∀ x y, lt x y = ltK x.1 y.1) (W : WO lt) (h : Rel lt d L (x :: r)) : at_ d L 0 = x := by
  have h0 : 0 < L.length := by rw [h.len]; simp
  obtain ⟨j, hj, e⟩ := h.yes (List.mem_cons_self (a := x) (l := r))
  have hm := h.h.min W L.length j (by omega) hj
  rw [e, hlt] at hm
  have hmem := h.p.mem_iff.1 (mem_at (d := d) h0)
  rcases List.mem_cons.1 hmem with h1 | h1
  · exact h1
  · have h2 := (List.pairwise_cons.1 h.s).1 _ h1
    rw [hm] at h2
    cases h2
theorem le_tr (a b c : Ky) (h1 : (!(ltK b a)) = true) (h2 : (!(ltK c b)) = true) : (!(ltK c a)) = true := by
  simp only [Bool.not_eq_true', ltK_not] at *
  omega
theorem le_tot (a b : Ky) : ((!(ltK b a)) || (!(ltK a b))) = true := by
  rw [Bool.or_eq_true, Bool.not_eq_true', Bool.not_eq_true', ltK_not, ltK_not]
  omega
theorem le_anti {a b : Ky} (h1 : (!(ltK b a)) = true) (h2 : (!(ltK a b)) = true) : a = b := by
  rw [Bool.not_eq_true'] at h1 h2
  exact ltK_total h2 h1
theorem Rel.keys {L X : List (Ky × V)} (h : Rel lt d L X) : ((L.map (·.1)).mergeSort fun x y => !(ltK y x)) = X.map (·.1) := by
  refine List.Perm.eq_of_pairwise (fun _ _ _ _ h1 h2 => le_anti h1 h2) (List.pairwise_mergeSort le_tr le_tot _) ?_ ((List.mergeSort_perm _ _).trans (h.p.map _))
  rw [List.pairwise_map]
  refine h.s.imp fun {a b} h => ?_
  rw [Bool.not_eq_true', ltK_not]
  rw [ltK_iff] at h
  omega
end
/-! The list's own. -/
theorem getF_yes {X : List It} (hn : Nk X) {x : It} (hx : x ∈ X) {k : Ky} (hk : x.1 = k) : getF k X = (x.2, true) := by
  induction X with
  | nil => cases hx
  | cons z r ih =>
    unfold getF
    by_cases e : z.1 = k
    · rw [if_pos e, same_item hn hx List.mem_cons_self (hk.trans e.symm)]
    · rw [if_neg e]
      unfold Nk at hn
      rw [List.map_cons, List.nodup_cons] at hn
      rcases List.mem_cons.1 hx with h1 | h1
      · rw [h1] at hk
        exact absurd hk e
      · exact ih hn.2 h1
theorem getF_no {X : List It} {k : Ky} (h : ∀ x ∈ X, x.1 ≠ k) : getF k X = (0, false) := by
  induction X with
  | nil => rfl
  | cons z r ih =>
    unfold getF
    rw [if_neg (h z List.mem_cons_self)]
    exact ih fun x hx => h x (List.mem_cons_of_mem _ hx)
theorem key_cases (k : Ky) (X : List It) : (∃ x ∈ X, x.1 = k) ∨ ∀ x ∈ X, x.1 ≠ k := by
  by_cases h : ∃ x ∈ X, x.1 = k
  · exact .inl h
  · exact .inr fun x hx e => h ⟨x, hx, e⟩
theorem ne_is (k : Ky) : ne k = nek k := rfl
theorem wI_perm (k : Ky) (v : Int) : ∀ X : List It, (wI k v X).Perm ((k, v) :: X)
  | [] => List.Perm.refl _
  | x :: r => by
    unfold wI
    split
    · exact List.Perm.refl _
    · exact ((wI_perm k v r).cons x).trans (List.Perm.swap _ _ _)
theorem wI_srt (k : Ky) (v : Int) : ∀ X : List It, Srt X → (∀ x ∈ X, x.1 ≠ k) → Srt (wI k v X)
  | [], _, _ => List.pairwise_singleton _ _
  | x :: r, hs, hno => by
    have hs2 := List.pairwise_cons.1 hs
    unfold wI
    split
    · rename_i h
      refine List.pairwise_cons.2 ⟨fun y hy => ?_, hs⟩
      rcases List.mem_cons.1 hy with e | hy
      · rw [e]; exact h
      · exact ltK_tr h (hs2.1 y hy)
    · rename_i h
      refine List.pairwise_cons.2 ⟨fun y hy => ?_, wI_srt k v r hs2.2 fun x hx => hno x (List.mem_cons_of_mem _ hx)⟩
      rcases List.mem_cons.1 ((wI_perm k v r).mem_iff.1 hy) with e | hy
      · rw [e]
        have h1 := hno x List.mem_cons_self
        have h2 : ltK k x.1 = false := by simpa using h
        cases h3 : ltK x.1 k
        · exact absurd (ltK_total h3 h2) h1
        · rfl
      · exact hs2.1 y hy
/-! The list at another kind of value. -/
section
variable {V : Type} (W : Int → V)
def tw (x : It) : Ky × V := (x.1, W x.2)
theorem tw_srt {X : List It} (h : Srt X) : Srt (X.map (tw W)) := List.pairwise_map.2 h
theorem tw_filter (k : Ky) (X : List It) : (X.map (tw W)).filter (nek k) = (X.filter (nek k)).map (tw W) := by
  rw [List.filter_map]
  rfl
theorem tw_no {X : List It} {k : Ky} (h : ∀ x ∈ X, x.1 ≠ k) : ∀ x ∈ X.map (tw W), x.1 ≠ k := fun x hx => by
  obtain ⟨y, hy, e⟩ := List.mem_map.1 hx
  rw [← e]
  exact h y hy
theorem tw_keys (X : List It) : (X.map (tw W)).map (·.1) = X.map (·.1) := by
  rw [List.map_map]
  rfl
theorem tw_wI (k : Ky) (v : Int) (X : List It) : ((wI k v X).map (tw W)).Perm ((k, W v) :: X.map (tw W)) := (wI_perm k v X).map (tw W)
end
/-- All keys of the list are ints. -/
def Kok (X : List It) : Prop := ∀ x ∈ X, KyOk x.1
theorem Kok.filter {X : List It} (h : Kok X) (p : It → Bool) : Kok (X.filter p) := fun x hx => h x (List.mem_filter.1 hx).1
theorem Kok.wI {X : List It} (h : Kok X) {k : Ky} (hk : KyOk k) (v : Int) : Kok (wI k v X) := fun x hx => by
  rcases List.mem_cons.1 ((wI_perm k v X).mem_iff.1 hx) with e | hx
  · rw [e]; exact hk
  · exact h x hx
theorem wI_len (k : Ky) (v : Int) (X : List It) : (wI k v X).length = X.length + 1 := by rw [(wI_perm k v X).length_eq, List.length_cons]
end Go.Proofs.YtkbbngkfncbgkaaDoor.URel

namespace Go.Proofs.YtkbbngkfncbgkaaDoor.URef
open Go.RowKit Go.Proofs.YtkbbngkfncbgkaaDoor.IQHeap Go.Proofs.YtkbbngkfncbgkaaDoor.IQWords Go.Proofs.YtkbbngkfncbgkaaDoor.IQOrd Go.Proofs.YtkbbngkfncbgkaaDoor.UPlain Go.Proofs.YtkbbngkfncbgkaaDoor.URel Go.Proofs.YtkbbngkfncbgkaaDoor.PA Go.Proofs.YtkbbngkfncbgkaaDoorW.PrintWords
set_option linter.unusedVariables false
set_option linter.unusedSimpArgs false
/-- A list of the document's, in a row of the call's own. -/
def RL (B : Nat) (w : World) (u : Value) (X : List It) : Prop := Kd.R k76 76 w B (fun k => u.ownBlock = some k) u (X.map si)
section
variable {B : Nat} {w W : World} {u : Value} {X : List It} {S : Nat → Prop}
theorem RL.form (h : RL B w u X) : ∃ A c, u = .slice A X.length c := by
  obtain ⟨A, c, e⟩ := Kd.R_slice h
  exact ⟨A, c, by rw [e, List.length_map]⟩
theorem RL.kept (h : RL B w u X) (ht : Tn w W S) (hn : ∀ k, u.ownBlock = some k → ¬ S k) : RL B W u X := Kd.R_step h fun k ho hlt => ht.block k hlt (hn k ho)
theorem RL.lt (h : RL B w u X) : ∀ k, u.ownBlock = some k → k < w.heap.size := Kd.R_lt h
theorem RL.base (h : RL B w u X) : ∀ k, u.ownBlock = some k → B ≤ k := Kd.R_base h
theorem RL.nil (B : Nat) (w : World) : RL B w (.slice none 0 0) [] := Kd.R_nil _ _ _ _ _
theorem RL.typed (h : RL B w u X) : ∀ k, u.ownBlock = some k → ∃ cells, w.heap[k]? = some (.cells cells 76 (0, 0)) := Kd.R_typed h
theorem flat76 {α : Nat → Prop} {b : Nat} {v : Value} {xs : List S76} (h : Kd.R k76 76 w b α v xs) : Kd.R k76 76 w b (fun k => v.ownBlock = some k) v xs :=
  Kd.R_flat (fun h => by obtain rfl := k76_openM h; exact k76_mkM _ _ _ _) h (fun k hk _ => hk)
theorem base_world (h : B ≤ w.heap.size) : ∃ w0 : World, w0.heap.size = B ∧ Below B w0 w := by
  refine ⟨{ w with heap := w.heap.extract 0 B }, by simp; omega, ⟨rfl, rfl, rfl, by simp; omega, fun i hi => ?_⟩⟩
  show w.heap[i]? = (w.heap.extract 0 B)[i]?
  rw [Array.getElem?_extract, if_pos (by omega), Nat.zero_add]
theorem tn_kept {w0 w' : World} {S : Nat → Prop} (hb : Below B w0 w) (hb2 : Below w0.heap.size w0 w') (hk : Kept w w' S) : Tn w w' S :=
  ⟨hb2.os.trans hb.os.symm, hb2.tape.trans hb.tape.symm, hb2.output.trans hb.output.symm, hk.1, hk.2⟩
end
variable (B : Nat) (w : World) (u : Value) (X : List It) (k : Ky) (hl : X.length < 4000000000000) (h : RL B w u X)
include hl h
theorem ref_get (t : Int × Bool) (ht : getF k X = t) : Calls Tryd.prog 26 #[u, .agg #[.int .i64 k.d, .int .i64 k.l, .int .i64 k.k]] w fun e w' => e = .returned (.tuple #[.int .i64 t.1, .bool t.2]) ∧ Below w.heap.size w w' := by
  subst ht
  obtain ⟨A, c, e, hc, hC⟩ := Kd.R_reads h
  subst e
  obtain ⟨n, hn⟩ := (get_f k X hl).rounds
  exact arrearsref11_Get.calls n A c (X.map si) k.d k.l k.k _ _ w hC hc hn
theorem ref_cancel (hB : B ≤ w.heap.size) (Y : List It) (t : Bool) (hY : X.filter (nek k) = Y) (ht : (getF k X).2 = t) : Calls Tryd.prog 17 #[u, .agg #[.int .i64 k.d, .int .i64 k.l, .int .i64 k.k]] w fun e w' => ∃ u', e = .returned (.tuple #[u', .bool t]) ∧ RL B w' u' Y ∧ Tn w w' (fun _ => False) ∧ ∀ q, u'.ownBlock = some q → w.heap.size ≤ q := by
  subst hY ht
  obtain ⟨A, c, e, hc, hC⟩ := Kd.R_reads h
  subst e
  obtain ⟨n, hn⟩ := (cancel_f k X hl).rounds
  refine (arrearsref11_Cancel.calls n A c (X.map si) k.d k.l k.k _ _ w hC hc hn).mono ?_
  rintro e w' ⟨u', he, hR, hb⟩
  exact ⟨u', he, flat76 (Kd.R_lower hR hB), Tn.of_below hb _, Kd.R_base hR⟩
variable (hB : B ≤ w.heap.size)
include hB
theorem ref_put (v : Int) (Y : List It) (x : Int) (hY : putF k v X = (Y, x)) : Calls Tryd.prog 12 #[u, .agg #[.int .i64 k.d, .int .i64 k.l, .int .i64 k.k], .int .i64 v] w fun e w' => ∃ u', e = .returned (.tuple #[u', .int .i64 x]) ∧ RL B w' u' Y ∧ Tn w w' (fun q => u.ownBlock = some q) ∧ ∀ q, u'.ownBlock = some q → u.ownBlock = some q ∨ w.heap.size ≤ q := by
  obtain ⟨w0, hz, hb⟩ := base_world hB
  obtain ⟨n, hn⟩ := (put_f k v X hl).rounds
  rw [hY] at hn
  refine (arrearsref11_Put.calls n (fun q => u.ownBlock = some q) u (X.map si) k.d k.l k.k v _ _ w0 w (by rw [hz]; exact hb) (by rw [hz]; exact h) hn).mono ?_
  rintro e w' ⟨u', he, hR, hb2, hk⟩
  rw [hz] at hR
  exact ⟨u', he, flat76 hR, tn_kept hb hb2 hk, hR.1⟩
theorem ref_move (day : Int) (Y : List It) (x : Int) (hY : moveF k day X = (Y, x)) : Calls Tryd.prog 20 #[u, .agg #[.int .i64 k.d, .int .i64 k.l, .int .i64 k.k], .int .i64 day] w fun e w' => ∃ u', e = .returned (.tuple #[u', .int .i64 x]) ∧ RL B w' u' Y ∧ Tn w w' (fun q => u.ownBlock = some q) ∧ ∀ q, u'.ownBlock = some q → u.ownBlock = some q ∨ w.heap.size ≤ q := by
  obtain ⟨w0, hz, hb⟩ := base_world hB
  obtain ⟨n, hn⟩ := (move_f k day X hl).rounds
  rw [hY] at hn
  refine (arrearsref11_Move.calls n (fun q => u.ownBlock = some q) u (X.map si) k.d k.l k.k day _ _ w0 w (by rw [hz]; exact hb) (by rw [hz]; exact h) hn).mono ?_
  rintro e w' ⟨u', he, hR, hb2, hk⟩
  rw [hz] at hR
  exact ⟨u', he, flat76 hR, tn_kept hb hb2 hk, hR.1⟩
omit k
theorem ref_pop (day : Int) (Y : List It) (z : It) (t : Bool) (hY : popR day X = (Y, z, t)) : Calls Tryd.prog 43 #[u, .int .i64 day] w fun e w' => ∃ u', e = .returned (.tuple #[u', .agg #[.int .i64 z.1.d, .int .i64 z.1.l, .int .i64 z.1.k], .int .i64 z.2, .bool t]) ∧ RL B w' u' Y ∧ Tn w w' (fun q => u.ownBlock = some q) ∧ ∀ q, u'.ownBlock = some q → u.ownBlock = some q ∨ w.heap.size ≤ q := by
  obtain ⟨w0, hz, hb⟩ := base_world hB
  obtain ⟨n, hn⟩ := (pop_f day X hl).rounds
  rw [hY] at hn
  refine (arrearsref11_PopDue.calls n (fun q => u.ownBlock = some q) u (X.map si) day _ _ _ _ _ _ w0 w (by rw [hz]; exact hb) (by rw [hz]; exact h) hn).mono ?_
  rintro e w' ⟨u', he, hR, hb2, hk⟩
  rw [hz] at hR
  exact ⟨u', he, flat76 hR, tn_kept hb hb2 hk, hR.1⟩
end Go.Proofs.YtkbbngkfncbgkaaDoor.URef
