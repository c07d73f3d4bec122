/- The words of a line, and the whole numbers that words write, plainly. No program in sight. -/
import Derived.Test.YtjhodgcjkobpoaaGreatDoorYFParse
import Derived.Test.YtjhodgcjkobpoaaGreatDoorYFDec
import Derived.Test.YtjhodgcjkobpoaaGreatDoorYMDig
namespace Go.Proofs.YtjhodgcjkobpoaaGreatDoor.FSp
open Go.RowKit Go.Proofs.YtjhodgcjkobpoaaGreatDoorW.PrintWords Go.Proofs.YtjhodgcjkobpoaaGreatDoorW.PrintLast Go.Proofs.YtjhodgcjkobpoaaGreatDoorW.PrintMore Go.Proofs.YtjhodgcjkobpoaaGreatDoor.FWhole Go.Proofs.YtjhodgcjkobpoaaGreatDoor.FParse Go.Proofs.YtjhodgcjkobpoaaGreatDoor.FDec Go.Proofs.YtjhodgcjkobpoaaGreatDoor.MDig
set_option linter.unusedVariables false
set_option linter.unusedSimpArgs false
/-- A list of bytes cut at every blank. -/
def sp : List UInt8 → List (List UInt8)
  | [] => [[]]
  | c :: l => if c = 32 then [] :: sp l else (c :: (sp l).headD []) :: (sp l).tail
theorem sp_blank (l : List UInt8) : sp (32 :: l) = [] :: sp l := by rw [sp, if_pos rfl]
theorem sp_other {c : UInt8} (h : c ≠ 32) (l : List UInt8) : sp (c :: l) = (c :: (sp l).headD []) :: (sp l).tail := by rw [sp, if_neg h]
theorem sp_cons (l : List UInt8) : sp l = (sp l).headD [] :: (sp l).tail := by
  cases l with
  | nil => rfl
  | cons c l =>
    by_cases h : c = 32
    · subst h; rw [sp_blank]; rfl
    · rw [sp_other h]; rfl
theorem split_sp : ∀ l : List UInt8, Lib.split l [32] = sp l
  | [] => by
    unfold Lib.split
    rw [Lib.count_one]
    rfl
  | b :: l => by
    have ih := split_sp l
    unfold Lib.split at ih ⊢
    by_cases hb : b = 32
    · subst hb
      have hix : Lib.index ((32 : UInt8) :: l) [32] = 0 := by rw [Lib.index]; simp [List.isPrefixOf]
      rw [Lib.count_cons_eq, Nat.add_comm, Lib.splitK, hix, if_neg (by decide), sp_blank, ← ih]
      rfl
    · rw [Lib.count_cons_ne b 32 l hb, sp_other hb]
      cases hn : Lib.count l [32] with
      | zero =>
        rw [hn] at ih
        rw [← ih]
        rfl
      | succ m =>
        rw [hn] at ih
        have hne : Lib.index l [32] ≠ -1 := fun h => by rw [Lib.count_miss h] at hn; cases hn
        have hge := Lib.index_ge l [32]
        obtain ⟨j, hj⟩ : ∃ j : Nat, Lib.index l [32] = j := ⟨(Lib.index l [32]).toNat, by omega⟩
        have hp : ([32] : List UInt8).isPrefixOf (b :: l) = false := by simp [List.isPrefixOf, Ne.symm hb]
        have hix : Lib.index (b :: l) [32] = ((j + 1 : Nat) : Int) := by
          rw [Lib.index, hp]
          simp only [Bool.false_eq_true, if_false]
          rw [if_neg (fun e => hne (beq_iff_eq.1 e)), hj]
          omega
        rw [Lib.splitK, if_neg (fun e => hne (beq_iff_eq.1 e)), hj, Int.toNat_natCast] at ih
        rw [Lib.splitK, if_neg (fun e => by have := beq_iff_eq.1 e; omega), hix, Int.toNat_natCast, ← ih]
        rw [show j + 1 + [(32 : UInt8)].length = (j + [(32 : UInt8)].length) + 1 by simp, List.drop_succ_cons]
        rfl
theorem words_sp (s : ByteArray) : (wordsOf s).map (·.data.toList) = sp s.data.toList := by
  unfold wordsOf
  rw [Lib.splitB_data]
  exact split_sp s.data.toList
theorem sp_app : ∀ (w l : List UInt8), (32 : UInt8) ∉ w → sp (w ++ 32 :: l) = w :: sp l
  | [], l, _ => sp_blank l
  | c :: w, l, h => by
    rw [List.cons_append, sp_other (fun e => h (e ▸ List.mem_cons_self ..)), sp_app w l (fun m => h (List.mem_cons_of_mem _ m))]
    rfl
theorem sp_one : ∀ (w : List UInt8), (32 : UInt8) ∉ w → sp w = [w]
  | [], _ => rfl
  | c :: w, h => by
    rw [sp_other (fun e => h (e ▸ List.mem_cons_self ..)), sp_one w (fun m => h (List.mem_cons_of_mem _ m))]
    rfl
/-- Words joined by blanks. -/
def jn (w0 : List UInt8) (ws : List (List UInt8)) : List UInt8 := w0 ++ ws.flatMap (fun w => 32 :: w)
theorem jn_cons (w0 v : List UInt8) (ws : List (List UInt8)) : jn w0 (v :: ws) = w0 ++ 32 :: jn v ws := by
  unfold jn
  rw [List.flatMap_cons, List.cons_append]
theorem sp_jn : ∀ (ws : List (List UInt8)) (w0 : List UInt8), (32 : UInt8) ∉ w0 → (∀ w ∈ ws, (32 : UInt8) ∉ w) → sp (jn w0 ws) = w0 :: ws
  | [], w0, h, _ => by
    rw [show jn w0 [] = w0 by unfold jn; simp]
    exact sp_one w0 h
  | v :: ws, w0, h, hs => by
    rw [jn_cons, sp_app _ _ h, sp_jn ws v (hs v (List.mem_cons_self ..)) (fun w m => hs w (List.mem_cons_of_mem _ m))]
theorem jn_sp : ∀ l : List UInt8, jn ((sp l).headD []) (sp l).tail = l
  | [] => rfl
  | c :: l => by
    have ih := jn_sp l
    by_cases h : c = 32
    · subst h
      rw [sp_blank]
      show jn [] (sp l) = 32 :: l
      rw [sp_cons l, jn_cons, ih]
      rfl
    · rw [sp_other h]
      show jn (c :: (sp l).headD []) (sp l).tail = c :: l
      unfold jn at ih ⊢
      rw [List.cons_append, ih]
theorem sp_no : ∀ (l w : List UInt8), w ∈ sp l → (32 : UInt8) ∉ w
  | [], w, h => by
    rw [List.mem_singleton.1 h]
    exact List.not_mem_nil
  | c :: l, w, h => by
    by_cases hc : c = 32
    · subst hc
      rw [sp_blank] at h
      rcases List.mem_cons.1 h with rfl | h
      · exact List.not_mem_nil
      · exact sp_no l w h
    · rw [sp_other hc] at h
      rcases List.mem_cons.1 h with rfl | h
      · intro m
        rcases List.mem_cons.1 m with m | m
        · exact hc m.symm
        · exact sp_no l _ (by rw [sp_cons l]; exact List.mem_cons_self ..) m
      · exact sp_no l w (by rw [sp_cons l]; exact List.mem_cons_of_mem _ h)
theorem sp_in : ∀ (l w : List UInt8), w ∈ sp l → ∀ c ∈ w, c ∈ l
  | [], w, h, c, hc => by
    rw [List.mem_singleton.1 h] at hc
    cases hc
  | b :: l, w, h, c, hc => by
    by_cases hb : b = 32
    · subst hb
      rw [sp_blank] at h
      rcases List.mem_cons.1 h with rfl | h
      · cases hc
      · exact List.mem_cons_of_mem _ (sp_in l w h c hc)
    · rw [sp_other hb] at h
      rcases List.mem_cons.1 h with rfl | h
      · rcases List.mem_cons.1 hc with rfl | hc
        · exact List.mem_cons_self ..
        · exact List.mem_cons_of_mem _ (sp_in l _ (by rw [sp_cons l]; exact List.mem_cons_self ..) c hc)
      · exact List.mem_cons_of_mem _ (sp_in l w (by rw [sp_cons l]; exact List.mem_cons_of_mem _ h) c hc)
theorem data_inj {s t : ByteArray} (h : s.data.toList = t.data.toList) : s = t := ByteArray.ext (Array.toList_inj.1 h)
theorem map_data_inj : ∀ {l m : List ByteArray}, l.map (·.data.toList) = m.map (·.data.toList) → l = m
  | [], [], _ => rfl
  | [], _ :: _, h => by cases h
  | _ :: _, [], h => by cases h
  | a :: l, b :: m, h => by
    rw [List.map_cons, List.map_cons] at h
    injection h with h1 h2
    rw [data_inj h1, map_data_inj h2]
/-- The words of words joined. -/
theorem words_jn {s w0 : ByteArray} {ws : List ByteArray} (hs : s.data.toList = jn w0.data.toList (ws.map (·.data.toList))) (h0 : (32 : UInt8) ∉ w0.data.toList) (hw : ∀ w ∈ ws, (32 : UInt8) ∉ w.data.toList) : wordsOf s = w0 :: ws := by
  apply map_data_inj
  rw [words_sp, hs, sp_jn _ _ h0 (fun w hm => by obtain ⟨v, hv, rfl⟩ := List.mem_map.1 hm; exact hw v hv)]
  rfl
theorem words_back {s w0 : ByteArray} {ws : List ByteArray} (h : wordsOf s = w0 :: ws) : s.data.toList = jn w0.data.toList (ws.map (·.data.toList)) ∧ ∀ w ∈ w0 :: ws, (32 : UInt8) ∉ w.data.toList ∧ ∀ c ∈ w.data.toList, c ∈ s.data.toList := by
  have e := words_sp s
  rw [h] at e
  refine ⟨?_, fun w hw => ?_⟩
  · have := jn_sp s.data.toList
    rw [← e] at this
    exact this.symm
  · have hm : w.data.toList ∈ sp s.data.toList := by rw [← e]; exact List.mem_map.2 ⟨w, hw, rfl⟩
    exact ⟨sp_no _ _ hm, sp_in _ _ hm⟩
/-! ### whole numbers -/
def Z (l : List UInt8) : List Int := l.map fun b => (b.toNat : Int)
theorem wrun_some : ∀ (l : List UInt8) (a m : Int), wrun l a = some m → (∀ c ∈ Z l, Dgt c) ∧ m = (Z l).foldl (fun a c => 10 * a + (c - 48)) a
  | [], a, m, h => ⟨fun c hc => absurd hc List.not_mem_nil, (Option.some.inj h).symm⟩
  | b :: l, a, m, h => by
    unfold wrun at h
    split at h
    · rename_i hb
      obtain ⟨h1, h2⟩ := wrun_some l _ m h
      refine ⟨fun c hc => ?_, ?_⟩
      · rcases List.mem_cons.1 hc with rfl | hc
        · show Dgt (b.toNat : Int)
          unfold Dgt; omega
        · exact h1 c hc
      · rw [h2]
        show _ = (Z l).foldl _ (10 * a + ((b.toNat : Int) - 48))
        rw [show a * 10 + ((b.toNat : Int) - 48) = 10 * a + ((b.toNat : Int) - 48) by omega]
    · cases h
theorem wrun_ok : ∀ (l : List UInt8) (a : Int), (∀ c ∈ Z l, Dgt c) → wrun l a = some ((Z l).foldl (fun a c => 10 * a + (c - 48)) a)
  | [], a, _ => rfl
  | b :: l, a, h => by
    have hb : Dgt (b.toNat : Int) := h (b.toNat : Int) (List.mem_cons_self ..)
    unfold Dgt at hb
    unfold wrun
    rw [if_pos (by omega), wrun_ok l _ (fun c hc => h c (List.mem_cons_of_mem _ hc)), show a * 10 + ((b.toNat : Int) - 48) = 10 * a + ((b.toNat : Int) - 48) by omega]
    rfl
theorem Z_dec (n : Nat) : Z (Lib.decDigits n) = dd n := rfl
theorem u8_inj {a b : UInt8} (h : (a.toNat : Int) = b.toNat) : a = b := UInt8.toNat_inj.1 (by omega)
theorem Z_inj : ∀ {l m : List UInt8}, Z l = Z m → l = m
  | [], [], _ => rfl
  | [], _ :: _, h => by cases h
  | _ :: _, [], h => by cases h
  | a :: l, b :: m, h => by
    unfold Z at h
    rw [List.map_cons, List.map_cons] at h
    injection h with h1 h2
    rw [u8_inj h1, Z_inj h2]
theorem Z_len (l : List UInt8) : (Z l).length = l.length := by unfold Z; rw [List.length_map]
theorem Z_head {l : List UInt8} (h : l ≠ []) : (Z l).headD 0 = ((l.headD 0).toNat : Int) := by
  cases l with
  | nil => exact absurd rfl h
  | cons a l => rfl
theorem dval_lt {l : List Int} (h : ∀ c ∈ l, Dgt c) : dval l < 10 ^ l.length := by
  revert h
  refine snoc_ind (P := fun l => (∀ c ∈ l, Dgt c) → dval l < 10 ^ l.length) (fun _ => by decide) (fun l c ih h => ?_) l
  rw [dval_snoc, List.length_append]
  have h1 := ih (fun x hx => h x (by simp [hx]))
  have h2 := h c (by simp)
  unfold Dgt at h2
  rw [show l.length + [c].length = l.length + 1 from rfl, Int.pow_succ]
  generalize (10 : Int) ^ l.length = q at *
  omega
theorem dec_ne (n : Nat) : Lib.decDigits n ≠ [] := fun h => dd_ne n (by rw [← Z_dec, h]; rfl)
theorem itoa_w (x : Int) : wD (num x) = Lib.decDigits x.natAbs ∧ wM (num x) = decide (x < 0) := by
  unfold wD wM num Lib.itoa
  by_cases h : x < 0
  · rw [if_pos h, decide_eq_true h]
    refine ⟨?_, ?_⟩
    · unfold Lib.trimPrefix Lib.hasPrefix
      simp [List.isPrefixOf]
    · unfold Lib.hasPrefix
      simp [List.isPrefixOf]
  · rw [if_neg h, decide_eq_false h, show x.toNat = x.natAbs by omega]
    have hd := dd_digits x.natAbs
    have hp : Lib.hasPrefix (Lib.decDigits x.natAbs) [45] = false := by
      unfold Lib.hasPrefix
      cases he : Lib.decDigits x.natAbs with
      | nil => rfl
      | cons b l =>
        have hb := hd (b.toNat : Int) (by rw [← Z_dec, he]; exact List.mem_cons_self ..)
        unfold Dgt at hb
        have : b ≠ 45 := fun e => by subst e; exact absurd hb.1 (by decide)
        simp [List.isPrefixOf, Ne.symm this]
    refine ⟨?_, hp⟩
    unfold Lib.trimPrefix
    rw [hp]
    rfl
theorem num_wv {x : Int} (h : okN x = true) : wv (num x) = some x := by
  have hx : -1000000000000000000 < x ∧ x < 1000000000000000000 := of_decide_eq_true h
  obtain ⟨h1, h2⟩ := itoa_w x
  have hlen : (Lib.decDigits x.natAbs).length ≤ 18 := by
    have := dd_len (n := x.natAbs) (d := 18) (by omega) (by decide)
    rwa [← Z_dec, Z_len] at this
  have hb : ¬ wBad (wD (num x)) (wM (num x)) := by
    rw [h1, h2]
    rintro (h | h | ⟨h, h3⟩)
    · exact dec_ne _ h
    · omega
    · have h0 : x.natAbs = 0 := (dd_head x.natAbs).1 (by rw [← Z_dec, Z_head (dec_ne _), h]; rfl)
      rcases h3 with h3 | h3
      · exact absurd (of_decide_eq_true h3) (by omega)
      · rw [h0] at h3
        exact absurd h3 (by decide +kernel)
  unfold wv
  rw [if_neg hb, h1, h2, wrun_ok _ 0 (by rw [Z_dec]; exact dd_digits _), Option.map_some]
  have hv : (Z (Lib.decDigits x.natAbs)).foldl (fun a c => 10 * a + (c - 48)) 0 = (x.natAbs : Int) := by rw [Z_dec]; exact dval_dd _
  rw [hv]
  by_cases hn : x < 0
  · rw [if_pos (decide_eq_true hn)]; congr 1; omega
  · rw [if_neg (fun e => hn (of_decide_eq_true e))]; congr 1; omega
theorem wv_num {s : ByteArray} {x : Int} (h : wv s = some x) : num x = s ∧ okN x = true := by
  unfold wv at h
  split at h
  · cases h
  rename_i hb
  obtain ⟨n, hr, hx⟩ := Option.map_eq_some_iff.1 h
  obtain ⟨hd, hn⟩ := wrun_some _ _ _ hr
  have hne : wD s ≠ [] := fun e => hb (.inl e)
  have hl : (wD s).length ≤ 18 := Nat.le_of_not_lt fun e => hb (.inr (.inl e))
  have hn' : n = dval (Z (wD s)) := hn
  have hnn : 0 ≤ n := by rw [hn']; exact dval_nn hd
  have hlt : n < 10 ^ 18 := by
    have h1 := dval_lt hd
    rw [Z_len, ← hn'] at h1
    have h2 : (10 : Nat) ^ (wD s).length ≤ 10 ^ 18 := Nat.pow_le_pow_right (by decide) hl
    have h3 : (10 : Int) ^ (wD s).length ≤ 10 ^ 18 := by exact_mod_cast h2
    omega
  have hdd : Lib.decDigits n.toNat = wD s := by
    apply Z_inj
    rw [Z_dec, hn']
    refine dd_dval hd (fun e => hne ?_) ?_
    · have := congrArg List.length e
      rw [Z_len] at this
      exact List.eq_nil_of_length_eq_zero this
    · rw [Z_head hne, Z_len]
      by_cases h48 : (wD s).headD 0 = 48
      · right
        have h1 : ¬ 1 < (wD s).length := fun e => hb (.inr (.inr ⟨h48, .inr e⟩))
        have h2 := List.length_pos_iff.2 hne
        omega
      · left
        exact fun e => h48 (u8_inj e)
  have hok : okN x = true := by
    refine decide_eq_true ?_
    subst hx
    split <;> omega
  refine ⟨data_inj ?_, hok⟩
  show Lib.itoa x = s.data.toList
  unfold Lib.itoa
  cases hm : wM s with
  | true =>
    rw [hm, if_pos rfl] at hx
    have hD : s.data.toList = 45 :: wD s := by
      unfold wM Lib.hasPrefix at hm
      unfold wD Lib.trimPrefix Lib.hasPrefix
      rw [hm]
      cases hs : s.data.toList with
      | nil => rw [hs] at hm; cases hm
      | cons b l =>
        rw [hs] at hm
        have : b = 45 := by simp [List.isPrefixOf] at hm; exact hm.symm
        subst this
        simp
    have h48 : (wD s).headD 0 ≠ 48 := fun e => hb (.inr (.inr ⟨e, .inl hm⟩))
    have hpos : 1 ≤ n := by
      rw [hn']
      refine dval_pos hd (fun e => hne ?_) (by rw [Z_head hne]; exact fun e => h48 (u8_inj e))
      have := congrArg List.length e
      rw [Z_len] at this
      exact List.eq_nil_of_length_eq_zero this
    rw [if_pos (by omega), show x.natAbs = n.toNat by omega, hdd, hD]
  | false =>
    rw [hm, if_neg (by decide)] at hx
    have hD : s.data.toList = wD s := by
      unfold wM at hm
      unfold wD Lib.trimPrefix
      rw [hm]
      rfl
    rw [if_neg (by omega), show x.toNat = n.toNat by omega, hdd, hD]
theorem num_no (x : Int) : ∀ c ∈ (num x).data.toList, c ≠ 32 ∧ c ≠ 10 := by
  have key : ∀ n c, c ∈ Lib.decDigits n → c ≠ 32 ∧ c ≠ 10 := fun n c hc => by
    have hd := dd_digits n (c.toNat : Int) (by rw [← Z_dec]; exact List.mem_map.2 ⟨c, hc, rfl⟩)
    unfold Dgt at hd
    refine ⟨fun e => ?_, fun e => ?_⟩
    · subst e; exact absurd hd.1 (by decide)
    · subst e; exact absurd hd.1 (by decide)
  intro c hc
  have hc' : c ∈ Lib.itoa x := hc
  unfold Lib.itoa at hc'
  split at hc'
  · rcases List.mem_cons.1 hc' with rfl | hc'
    · decide
    · exact key _ c hc'
  · exact key _ c hc'
end Go.Proofs.YtjhodgcjkobpoaaGreatDoor.FSp
