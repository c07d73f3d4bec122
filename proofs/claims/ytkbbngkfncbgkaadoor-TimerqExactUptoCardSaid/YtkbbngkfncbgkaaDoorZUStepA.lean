/- arrearslaw11.step, one theorem a kind of call: the three holders go on holding one list, and it says true. Conditions: the numbers are ints, the list is not beyond all memory. -/
import Derived.Test.YtkbbngkfncbgkaaDoorZUBegin
import Derived.OpenShut
namespace Go.Proofs.YtkbbngkfncbgkaaDoor.UFacts
open Go.RowKit Go.Proofs.YtkbbngkfncbgkaaDoor.IQHeap Go.Proofs.YtkbbngkfncbgkaaDoor.UPlain Go.Proofs.YtkbbngkfncbgkaaDoor.URel Go.Proofs.YtkbbngkfncbgkaaDoor.URef Go.Proofs.YtkbbngkfncbgkaaDoor.UTrio Go.Proofs.YtkbbngkfncbgkaaDoorW.PrintWords Go.Proofs.YtkbbngkfncbgkaaDoorW.PrintLast Go.Proofs.YtkbbngkfncbgkaaDoorW.PrintMore Go.Proofs.YtkbbngkfncbgkaaDoor.UWord Go.Proofs.YtkbbngkfncbgkaaDoor.UNexts Go.Proofs.YtkbbngkfncbgkaaDoor.UPops Go.Proofs.YtkbbngkfncbgkaaDoor.PA
open Go.Proofs.YtkbbngkfncbgkaaDoor.IQWords (Ky KyOk Tn QS Hd)
set_option linter.unusedVariables false
set_option linter.unusedSimpArgs false
theorem TM.box3 {B : Nat} {w : World} {F : Nat → Prop} {qi mi : Nat} {vi : Value} {L : List (Ky × Int)} {qt mt : Nat} {vt : Value} {M : List (Ky × ByteArray)} {u : Value} {X : List (Ky × Int)} (h : TM B w F qi mi vi L qt mt vt M u X) (a a2 a3 : Array Value) (t t2 t3 : TypeId) :
    TM B (((w.alloc (.cells a t)).alloc (.cells a2 t2)).alloc (.cells a3 t3)) F qi mi vi L qt mt vt M u X ∧ Bx (((w.alloc (.cells a t)).alloc (.cells a2 t2)).alloc (.cells a3 t3)) F w.heap.size (.cells a t (0, 0)) ∧ Bx (((w.alloc (.cells a t)).alloc (.cells a2 t2)).alloc (.cells a3 t3)) F (w.heap.size + 1) (.cells a2 t2 (0, 0)) ∧ Bx (((w.alloc (.cells a t)).alloc (.cells a2 t2)).alloc (.cells a3 t3)) F (w.heap.size + 1 + 1) (.cells a3 t3 (0, 0)) ∧ Tn w (((w.alloc (.cells a t)).alloc (.cells a2 t2)).alloc (.cells a3 t3)) (fun _ => False) := by
  obtain ⟨h2, b1, b2, t2'⟩ := TM.box2 h a a2 t t2
  obtain ⟨h3, b3, t3'⟩ := TM.box1 h2 a3 t3
  have e : ((w.alloc (.cells a t)).alloc (.cells a2 t2)).heap.size = w.heap.size + 1 + 1 := by simp
  rw [e] at b3
  exact ⟨h3, b1.kept (.of_tn t3' _), b2.kept (.of_tn t3' _), b3, t2'.then_ t3' (fun _ h => h.elim)⟩
theorem putI (qb mb : Nat) (v : Value) (k : Ky) (n : Int) (L L1 : List (Ky × Int)) (x : Int) (w : World) (hk : KyOk k) (hl : L.length + 1 < 3000000000000) (hQ : Go.Proofs.YtkbbngkfncbgkaaDoor.IQWords.QS w qb v mb L)
    (hc : (x = 110 ∧ L1 = L ∧ ∃ i, i < L.length ∧ (at_ Go.Proofs.YtkbbngkfncbgkaaDoor.IQWords.d0 L i).1 = k) ∨ (x = 0 ∧ L1 = pushF Go.Proofs.YtkbbngkfncbgkaaDoor.IQOrd.ltI Go.Proofs.YtkbbngkfncbgkaaDoor.IQWords.d0 L (k, n) ∧ ∀ i, i < L.length → (at_ Go.Proofs.YtkbbngkfncbgkaaDoor.IQWords.d0 L i).1 ≠ k)) :
    Calls Tryd.prog 13 #[.pointer (some ⟨qb, 0, none⟩), .agg #[.int .i64 k.d, .int .i64 k.l, .int .i64 k.k], .int .i64 n] w fun e w' => e = .returned (.int .i64 x) ∧ ∃ v1, Go.Proofs.YtkbbngkfncbgkaaDoor.IQWords.QS w' qb v1 mb L1 ∧ Tn w w' (Bl qb mb v) ∧ ∀ q, v1.ownBlock = some q → v.ownBlock = some q ∨ w.heap.size ≤ q := by
  refine (Go.Proofs.YtkbbngkfncbgkaaDoor.IQPut.put_calls qb mb v L k n w hk hl hQ).mono ?_
  rintro e w' h
  rcases hc with ⟨rfl, rfl, i, hi, he⟩ | ⟨rfl, rfl, hno⟩
  · rcases h with ⟨h1, _, h3⟩ | ⟨_, h2, _⟩
    · exact ⟨h1, v, hQ.kept h3 (fun h => h) (fun h => h) (fun _ _ h => h), h3.mono (fun _ h => h.elim), fun q h => .inl h⟩
    · exact absurd he (h2 i hi)
  · rcases h with ⟨_, ⟨i, hi, he⟩, _⟩ | ⟨h1, _, v1, h3, h4, h5⟩
    · exact absurd he (hno i hi)
    · exact ⟨h1, v1, h3, h4, h5⟩
theorem cancelI (qb mb : Nat) (v : Value) (k : Ky) (L L1 : List (Ky × Int)) (t : Bool) (w : World) (hk : KyOk k) (hl : L.length < 3000000000000) (hQ : Go.Proofs.YtkbbngkfncbgkaaDoor.IQWords.QS w qb v mb L)
    (hc : (t = false ∧ L1 = L ∧ ∀ i, i < L.length → (at_ Go.Proofs.YtkbbngkfncbgkaaDoor.IQWords.d0 L i).1 ≠ k) ∨ (t = true ∧ ∃ i, i < L.length ∧ (at_ Go.Proofs.YtkbbngkfncbgkaaDoor.IQWords.d0 L i).1 = k ∧ L1 = takeF Go.Proofs.YtkbbngkfncbgkaaDoor.IQOrd.ltI Go.Proofs.YtkbbngkfncbgkaaDoor.IQWords.d0 L i)) :
    Calls Tryd.prog 18 #[.pointer (some ⟨qb, 0, none⟩), .agg #[.int .i64 k.d, .int .i64 k.l, .int .i64 k.k]] w fun e w' => e = .returned (.bool t) ∧ ∃ v1, Go.Proofs.YtkbbngkfncbgkaaDoor.IQWords.QS w' qb v1 mb L1 ∧ Tn w w' (Bl qb mb v) ∧ ∀ q, v1.ownBlock = some q → v.ownBlock = some q ∨ w.heap.size ≤ q := by
  refine (Go.Proofs.YtkbbngkfncbgkaaDoor.IQCanc.cancel_calls qb mb v L k w hk hl hQ).mono ?_
  rintro e w' h
  rcases hc with ⟨rfl, rfl, hno⟩ | ⟨rfl, i, hi, he, rfl⟩
  · rcases h with ⟨h1, _, h3⟩ | ⟨_, i, hi, he, _⟩
    · exact ⟨h1, v, hQ.kept h3 (fun h => h) (fun h => h) (fun _ _ h => h), h3.mono (fun _ h => h.elim), fun q h => .inl h⟩
    · exact absurd he (hno i hi)
  · rcases h with ⟨_, h2, _⟩ | ⟨h1, i2, hi2, he2, v1, h3, h4, h5⟩
    · exact absurd he (h2 i hi)
    · obtain ⟨f, _, hf⟩ := hQ.pm
      have := hf.inj hi hi2 (he.trans he2.symm)
      subst this
      exact ⟨h1, v1, h3, h4, fun q h => .inl (by rw [← h5]; exact h)⟩
theorem moveI (qb mb : Nat) (v : Value) (k : Ky) (day : Int) (L L1 : List (Ky × Int)) (x : Int) (w : World) (hk : KyOk k) (hd : (Lit.int .i64 day).wf = true) (hl : L.length + 1 < 3000000000000) (hQ : Go.Proofs.YtkbbngkfncbgkaaDoor.IQWords.QS w qb v mb L)
    (hc : (x = 110 ∧ L1 = L ∧ ∀ i, i < L.length → (at_ Go.Proofs.YtkbbngkfncbgkaaDoor.IQWords.d0 L i).1 ≠ k) ∨ (x = 0 ∧ L1 = L ∧ day = k.d ∧ ∃ i, i < L.length ∧ (at_ Go.Proofs.YtkbbngkfncbgkaaDoor.IQWords.d0 L i).1 = k) ∨
      (x = 110 ∧ L1 = L ∧ day ≠ k.d ∧ (∃ i, i < L.length ∧ (at_ Go.Proofs.YtkbbngkfncbgkaaDoor.IQWords.d0 L i).1 = k) ∧ ∃ i, i < L.length ∧ (at_ Go.Proofs.YtkbbngkfncbgkaaDoor.IQWords.d0 L i).1 = ⟨day, k.l, k.k⟩) ∨
      (x = 0 ∧ day ≠ k.d ∧ (∀ i, i < L.length → (at_ Go.Proofs.YtkbbngkfncbgkaaDoor.IQWords.d0 L i).1 ≠ ⟨day, k.l, k.k⟩) ∧ ∃ i, i < L.length ∧ (at_ Go.Proofs.YtkbbngkfncbgkaaDoor.IQWords.d0 L i).1 = k ∧ L1 = pushF Go.Proofs.YtkbbngkfncbgkaaDoor.IQOrd.ltI Go.Proofs.YtkbbngkfncbgkaaDoor.IQWords.d0 (takeF Go.Proofs.YtkbbngkfncbgkaaDoor.IQOrd.ltI Go.Proofs.YtkbbngkfncbgkaaDoor.IQWords.d0 L i) (⟨day, k.l, k.k⟩, (at_ Go.Proofs.YtkbbngkfncbgkaaDoor.IQWords.d0 L i).2))) :
    Calls Tryd.prog 21 #[.pointer (some ⟨qb, 0, none⟩), .agg #[.int .i64 k.d, .int .i64 k.l, .int .i64 k.k], .int .i64 day] w fun e w' => e = .returned (.int .i64 x) ∧ ∃ v1, Go.Proofs.YtkbbngkfncbgkaaDoor.IQWords.QS w' qb v1 mb L1 ∧ Tn w w' (Bl qb mb v) ∧ ∀ q, v1.ownBlock = some q → v.ownBlock = some q ∨ w.heap.size ≤ q := by
  refine (Go.Proofs.YtkbbngkfncbgkaaDoor.IQMove.move_calls qb mb v L k day w hk hd hl hQ).mono ?_
  rintro e w' h
  have same : ∀ {e : Ending} {x : Int}, e = .returned (.int .i64 x) → Go.Proofs.YtkbbngkfncbgkaaDoor.IQWords.Tn w w' (fun _ => False) → e = .returned (.int .i64 x) ∧ ∃ v1, Go.Proofs.YtkbbngkfncbgkaaDoor.IQWords.QS w' qb v1 mb L ∧ Tn w w' (Bl qb mb v) ∧ ∀ q, v1.ownBlock = some q → v.ownBlock = some q ∨ w.heap.size ≤ q := fun h1 h3 =>
    ⟨h1, v, hQ.kept h3 (fun h => h) (fun h => h) (fun _ _ h => h), h3.mono (fun _ h => h.elim), fun q h => .inl h⟩
  have hne : ∀ {a b : Int}, a ≠ b → (⟨a, k.l, k.k⟩ : Ky) ≠ ⟨b, k.l, k.k⟩ := fun h e => h (congrArg (fun x : Ky => x.d) e)
  rcases hc with ⟨rfl, rfl, hno⟩ | ⟨rfl, rfl, hd, i, hi, he⟩ | ⟨rfl, rfl, hd, ⟨i, hi, he⟩, j, hj, hje⟩ | ⟨rfl, hd, hno, i, hi, he, rfl⟩
  · rcases h with ⟨h1, _, h3⟩ | ⟨_, _, ⟨i, hi, he⟩, _⟩ | ⟨_, _, ⟨i, hi, he⟩, _⟩ | ⟨_, _, _, i, hi, he, _⟩
    · exact same h1 h3
    · exact absurd he (hno i hi)
    · exact absurd he (hno i hi)
    · exact absurd he (hno i hi)
  · subst hd
    rcases h with ⟨_, h2, _⟩ | ⟨h1, _, _, h3⟩ | ⟨_, h2, _⟩ | ⟨_, h2, _⟩
    · exact absurd he (h2 i hi)
    · exact same h1 h3
    · exact absurd rfl h2
    · exact absurd rfl h2
  · rcases h with ⟨_, h2, _⟩ | ⟨_, h2, _⟩ | ⟨h1, _, _, _, h3⟩ | ⟨_, _, h2, _⟩
    · exact absurd he (h2 i hi)
    · exact absurd h2 (hne hd)
    · exact same h1 h3
    · exact absurd hje (h2 j hj)
  · rcases h with ⟨_, h2, _⟩ | ⟨_, h2, _⟩ | ⟨_, _, _, ⟨j, hj, hje⟩, _⟩ | ⟨h1, _, _, i2, hi2, he2, v1, h3, h4, h5⟩
    · exact absurd he (h2 i hi)
    · exact absurd h2 (hne hd)
    · exact absurd hje (hno j hj)
    · obtain ⟨f, _, hf⟩ := hQ.pm
      have := hf.inj hi hi2 (he.trans he2.symm)
      subst this
      exact ⟨h1, v1, h3, h4, h5⟩
theorem putT (qb mb : Nat) (v : Value) (k : Ky) (n : ByteArray) (L L1 : List (Ky × ByteArray)) (x : Int) (w : World) (hk : KyOk k) (hl : L.length + 1 < 3000000000000) (hQ : Go.Proofs.YtkbbngkfncbgkaaDoor.TQWords.QS w qb v mb L)
    (hc : (x = 110 ∧ L1 = L ∧ ∃ i, i < L.length ∧ (at_ Go.Proofs.YtkbbngkfncbgkaaDoor.TQWords.d0 L i).1 = k) ∨ (x = 0 ∧ L1 = pushF Go.Proofs.YtkbbngkfncbgkaaDoor.TQOrd.ltI Go.Proofs.YtkbbngkfncbgkaaDoor.TQWords.d0 L (k, n) ∧ ∀ i, i < L.length → (at_ Go.Proofs.YtkbbngkfncbgkaaDoor.TQWords.d0 L i).1 ≠ k)) :
    Calls Tryd.prog 14 #[.pointer (some ⟨qb, 0, none⟩), .agg #[.int .i64 k.d, .int .i64 k.l, .int .i64 k.k], .string n] w fun e w' => e = .returned (.int .i64 x) ∧ ∃ v1, Go.Proofs.YtkbbngkfncbgkaaDoor.TQWords.QS w' qb v1 mb L1 ∧ Tn w w' (Bl qb mb v) ∧ ∀ q, v1.ownBlock = some q → v.ownBlock = some q ∨ w.heap.size ≤ q := by
  refine (Go.Proofs.YtkbbngkfncbgkaaDoor.TQPut.put_calls qb mb v L k n w hk hl hQ).mono ?_
  rintro e w' h
  rcases hc with ⟨rfl, rfl, i, hi, he⟩ | ⟨rfl, rfl, hno⟩
  · rcases h with ⟨h1, _, h3⟩ | ⟨_, h2, _⟩
    · exact ⟨h1, v, hQ.kept h3 (fun h => h) (fun h => h) (fun _ _ h => h), (tnI h3).mono (fun _ h => h.elim), fun q h => .inl h⟩
    · exact absurd he (h2 i hi)
  · rcases h with ⟨_, ⟨i, hi, he⟩, _⟩ | ⟨h1, _, v1, h3, h4, h5⟩
    · exact absurd he (hno i hi)
    · exact ⟨h1, v1, h3, (tnI h4), h5⟩
theorem cancelT (qb mb : Nat) (v : Value) (k : Ky) (L L1 : List (Ky × ByteArray)) (t : Bool) (w : World) (hk : KyOk k) (hl : L.length < 3000000000000) (hQ : Go.Proofs.YtkbbngkfncbgkaaDoor.TQWords.QS w qb v mb L)
    (hc : (t = false ∧ L1 = L ∧ ∀ i, i < L.length → (at_ Go.Proofs.YtkbbngkfncbgkaaDoor.TQWords.d0 L i).1 ≠ k) ∨ (t = true ∧ ∃ i, i < L.length ∧ (at_ Go.Proofs.YtkbbngkfncbgkaaDoor.TQWords.d0 L i).1 = k ∧ L1 = takeF Go.Proofs.YtkbbngkfncbgkaaDoor.TQOrd.ltI Go.Proofs.YtkbbngkfncbgkaaDoor.TQWords.d0 L i)) :
    Calls Tryd.prog 19 #[.pointer (some ⟨qb, 0, none⟩), .agg #[.int .i64 k.d, .int .i64 k.l, .int .i64 k.k]] w fun e w' => e = .returned (.bool t) ∧ ∃ v1, Go.Proofs.YtkbbngkfncbgkaaDoor.TQWords.QS w' qb v1 mb L1 ∧ Tn w w' (Bl qb mb v) ∧ ∀ q, v1.ownBlock = some q → v.ownBlock = some q ∨ w.heap.size ≤ q := by
  refine (Go.Proofs.YtkbbngkfncbgkaaDoor.TQCanc.cancel_calls qb mb v L k w hk hl hQ).mono ?_
  rintro e w' h
  rcases hc with ⟨rfl, rfl, hno⟩ | ⟨rfl, i, hi, he, rfl⟩
  · rcases h with ⟨h1, _, h3⟩ | ⟨_, i, hi, he, _⟩
    · exact ⟨h1, v, hQ.kept h3 (fun h => h) (fun h => h) (fun _ _ h => h), (tnI h3).mono (fun _ h => h.elim), fun q h => .inl h⟩
    · exact absurd he (hno i hi)
  · rcases h with ⟨_, h2, _⟩ | ⟨h1, i2, hi2, he2, v1, h3, h4, h5⟩
    · exact absurd he (h2 i hi)
    · obtain ⟨f, _, hf⟩ := hQ.pm
      have := hf.inj hi hi2 (he.trans he2.symm)
      subst this
      exact ⟨h1, v1, h3, (tnI h4), fun q h => .inl (by rw [← h5]; exact h)⟩
theorem moveT (qb mb : Nat) (v : Value) (k : Ky) (day : Int) (L L1 : List (Ky × ByteArray)) (x : Int) (w : World) (hk : KyOk k) (hd : (Lit.int .i64 day).wf = true) (hl : L.length + 1 < 3000000000000) (hQ : Go.Proofs.YtkbbngkfncbgkaaDoor.TQWords.QS w qb v mb L)
    (hc : (x = 110 ∧ L1 = L ∧ ∀ i, i < L.length → (at_ Go.Proofs.YtkbbngkfncbgkaaDoor.TQWords.d0 L i).1 ≠ k) ∨ (x = 0 ∧ L1 = L ∧ day = k.d ∧ ∃ i, i < L.length ∧ (at_ Go.Proofs.YtkbbngkfncbgkaaDoor.TQWords.d0 L i).1 = k) ∨
      (x = 110 ∧ L1 = L ∧ day ≠ k.d ∧ (∃ i, i < L.length ∧ (at_ Go.Proofs.YtkbbngkfncbgkaaDoor.TQWords.d0 L i).1 = k) ∧ ∃ i, i < L.length ∧ (at_ Go.Proofs.YtkbbngkfncbgkaaDoor.TQWords.d0 L i).1 = ⟨day, k.l, k.k⟩) ∨
      (x = 0 ∧ day ≠ k.d ∧ (∀ i, i < L.length → (at_ Go.Proofs.YtkbbngkfncbgkaaDoor.TQWords.d0 L i).1 ≠ ⟨day, k.l, k.k⟩) ∧ ∃ i, i < L.length ∧ (at_ Go.Proofs.YtkbbngkfncbgkaaDoor.TQWords.d0 L i).1 = k ∧ L1 = pushF Go.Proofs.YtkbbngkfncbgkaaDoor.TQOrd.ltI Go.Proofs.YtkbbngkfncbgkaaDoor.TQWords.d0 (takeF Go.Proofs.YtkbbngkfncbgkaaDoor.TQOrd.ltI Go.Proofs.YtkbbngkfncbgkaaDoor.TQWords.d0 L i) (⟨day, k.l, k.k⟩, (at_ Go.Proofs.YtkbbngkfncbgkaaDoor.TQWords.d0 L i).2))) :
    Calls Tryd.prog 22 #[.pointer (some ⟨qb, 0, none⟩), .agg #[.int .i64 k.d, .int .i64 k.l, .int .i64 k.k], .int .i64 day] w fun e w' => e = .returned (.int .i64 x) ∧ ∃ v1, Go.Proofs.YtkbbngkfncbgkaaDoor.TQWords.QS w' qb v1 mb L1 ∧ Tn w w' (Bl qb mb v) ∧ ∀ q, v1.ownBlock = some q → v.ownBlock = some q ∨ w.heap.size ≤ q := by
  refine (Go.Proofs.YtkbbngkfncbgkaaDoor.TQMove.move_calls qb mb v L k day w hk hd hl hQ).mono ?_
  rintro e w' h
  have same : ∀ {e : Ending} {x : Int}, e = .returned (.int .i64 x) → Go.Proofs.YtkbbngkfncbgkaaDoor.TQWords.Tn w w' (fun _ => False) → e = .returned (.int .i64 x) ∧ ∃ v1, Go.Proofs.YtkbbngkfncbgkaaDoor.TQWords.QS w' qb v1 mb L ∧ Tn w w' (Bl qb mb v) ∧ ∀ q, v1.ownBlock = some q → v.ownBlock = some q ∨ w.heap.size ≤ q := fun h1 h3 =>
    ⟨h1, v, hQ.kept h3 (fun h => h) (fun h => h) (fun _ _ h => h), (tnI h3).mono (fun _ h => h.elim), fun q h => .inl h⟩
  have hne : ∀ {a b : Int}, a ≠ b → (⟨a, k.l, k.k⟩ : Ky) ≠ ⟨b, k.l, k.k⟩ := fun h e => h (congrArg (fun x : Ky => x.d) e)
  rcases hc with ⟨rfl, rfl, hno⟩ | ⟨rfl, rfl, hd, i, hi, he⟩ | ⟨rfl, rfl, hd, ⟨i, hi, he⟩, j, hj, hje⟩ | ⟨rfl, hd, hno, i, hi, he, rfl⟩
  · rcases h with ⟨h1, _, h3⟩ | ⟨_, _, ⟨i, hi, he⟩, _⟩ | ⟨_, _, ⟨i, hi, he⟩, _⟩ | ⟨_, _, _, i, hi, he, _⟩
    · exact same h1 h3
    · exact absurd he (hno i hi)
    · exact absurd he (hno i hi)
    · exact absurd he (hno i hi)
  · subst hd
    rcases h with ⟨_, h2, _⟩ | ⟨h1, _, _, h3⟩ | ⟨_, h2, _⟩ | ⟨_, h2, _⟩
    · exact absurd he (h2 i hi)
    · exact same h1 h3
    · exact absurd rfl h2
    · exact absurd rfl h2
  · rcases h with ⟨_, h2, _⟩ | ⟨_, h2, _⟩ | ⟨h1, _, _, _, h3⟩ | ⟨_, _, h2, _⟩
    · exact absurd he (h2 i hi)
    · exact absurd h2 (hne hd)
    · exact same h1 h3
    · exact absurd hje (h2 j hj)
  · rcases h with ⟨_, h2, _⟩ | ⟨_, h2, _⟩ | ⟨_, _, _, ⟨j, hj, hje⟩, _⟩ | ⟨h1, _, _, i2, hi2, he2, v1, h3, h4, h5⟩
    · exact absurd he (h2 i hi)
    · exact absurd h2 (hne hd)
    · exact absurd hje (hno j hj)
    · obtain ⟨f, _, hf⟩ := hQ.pm
      have := hf.inj hi hi2 (he.trans he2.symm)
      subst this
      exact ⟨h1, v1, h3, (tnI h4), h5⟩
theorem put_facts {L : List (Ky × Int)} {M : List (Ky × ByteArray)} {X : List (Ky × Int)} (h : Same L M X) (k : Ky) (hk : KyOk k) (n : Int) (h1 : -9223372036854775808 ≤ n) (h2 : n ≤ 9223372036854775807) : ∃ (x : Int) (L1 : List (Ky × Int)) (M1 : List (Ky × ByteArray)) (Y : List (Ky × Int)),
    putF k n X = (Y, x) ∧ Same L1 M1 Y ∧ Y.length ≤ X.length + 1 ∧
    ((x = 110 ∧ L1 = L ∧ ∃ i, i < L.length ∧ (at_ Go.Proofs.YtkbbngkfncbgkaaDoor.IQWords.d0 L i).1 = k) ∨ (x = 0 ∧ L1 = pushF Go.Proofs.YtkbbngkfncbgkaaDoor.IQOrd.ltI Go.Proofs.YtkbbngkfncbgkaaDoor.IQWords.d0 L (k, n) ∧ ∀ i, i < L.length → (at_ Go.Proofs.YtkbbngkfncbgkaaDoor.IQWords.d0 L i).1 ≠ k)) ∧
    ((x = 110 ∧ M1 = M ∧ ∃ i, i < M.length ∧ (at_ Go.Proofs.YtkbbngkfncbgkaaDoor.TQWords.d0 M i).1 = k) ∨ (x = 0 ∧ M1 = pushF Go.Proofs.YtkbbngkfncbgkaaDoor.TQOrd.ltI Go.Proofs.YtkbbngkfncbgkaaDoor.TQWords.d0 M (k, wd n) ∧ ∀ i, i < M.length → (at_ Go.Proofs.YtkbbngkfncbgkaaDoor.TQWords.d0 M i).1 ≠ k)) := by
  rcases key_cases k X with ⟨y, hy, hyk⟩ | hno
  · obtain ⟨i, hi, hie⟩ := h.i.yes hy
    obtain ⟨i2, hi2, hie2⟩ := h.t.yes (List.mem_map.2 ⟨y, hy, rfl⟩)
    exact ⟨110, L, M, X, by unfold putF; rw [getF_yes h.i.s.nk hy hyk, if_pos rfl], h, by omega, .inl ⟨rfl, rfl, i, hi, by rw [hie]; exact hyk⟩, .inl ⟨rfl, rfl, i2, hi2, by rw [hie2]; exact hyk⟩⟩
  · have hs := wI_srt k n X h.i.s hno
    exact ⟨0, _, _, wI k n X, by unfold putF; rw [getF_no hno, if_neg (by decide)], ⟨h.i.push Go.Proofs.YtkbbngkfncbgkaaDoor.IQOrd.wo (wI_perm k n X) hs, h.t.push Go.Proofs.YtkbbngkfncbgkaaDoor.TQOrd.wo (tw_wI wd k n X) (tw_srt wd hs), h.ok.wI hk n, fun x hx => by
      rcases List.mem_cons.1 ((wI_perm k n X).mem_iff.1 hx) with e | hx
      · rw [e]; exact ⟨h1, h2⟩
      · exact h.vo x hx⟩, by rw [wI_len]; omega, .inr ⟨rfl, rfl, h.i.no hno⟩, .inr ⟨rfl, rfl, h.t.no (tw_no wd hno)⟩⟩
theorem same_take {L : List (Ky × Int)} {M : List (Ky × ByteArray)} {X : List (Ky × Int)} (h : Same L M X) {k : Ky} {i i2 : Nat} (hi : i < L.length) (hi2 : i2 < M.length) (h1 : (at_ Go.Proofs.YtkbbngkfncbgkaaDoor.IQWords.d0 L i).1 = k) (h2 : (at_ Go.Proofs.YtkbbngkfncbgkaaDoor.TQWords.d0 M i2).1 = k) : Same (takeF Go.Proofs.YtkbbngkfncbgkaaDoor.IQOrd.ltI Go.Proofs.YtkbbngkfncbgkaaDoor.IQWords.d0 L i) (takeF Go.Proofs.YtkbbngkfncbgkaaDoor.TQOrd.ltI Go.Proofs.YtkbbngkfncbgkaaDoor.TQWords.d0 M i2) (X.filter (nek k)) :=
  ⟨h.i.take Go.Proofs.YtkbbngkfncbgkaaDoor.IQOrd.wo hi h1, by have := h.t.take Go.Proofs.YtkbbngkfncbgkaaDoor.TQOrd.wo hi2 h2; rw [tw_filter] at this; exact this, h.ok.filter _, fun x hx => h.vo x (List.mem_filter.1 hx).1⟩
theorem cancel_facts {L : List (Ky × Int)} {M : List (Ky × ByteArray)} {X : List (Ky × Int)} (h : Same L M X) (k : Ky) : ∃ (t : Bool) (L1 : List (Ky × Int)) (M1 : List (Ky × ByteArray)) (Y : List (Ky × Int)),
    X.filter (nek k) = Y ∧ (getF k X).2 = t ∧ Same L1 M1 Y ∧ Y.length ≤ X.length + 1 ∧
    ((t = false ∧ L1 = L ∧ ∀ i, i < L.length → (at_ Go.Proofs.YtkbbngkfncbgkaaDoor.IQWords.d0 L i).1 ≠ k) ∨ (t = true ∧ ∃ i, i < L.length ∧ (at_ Go.Proofs.YtkbbngkfncbgkaaDoor.IQWords.d0 L i).1 = k ∧ L1 = takeF Go.Proofs.YtkbbngkfncbgkaaDoor.IQOrd.ltI Go.Proofs.YtkbbngkfncbgkaaDoor.IQWords.d0 L i)) ∧
    ((t = false ∧ M1 = M ∧ ∀ i, i < M.length → (at_ Go.Proofs.YtkbbngkfncbgkaaDoor.TQWords.d0 M i).1 ≠ k) ∨ (t = true ∧ ∃ i, i < M.length ∧ (at_ Go.Proofs.YtkbbngkfncbgkaaDoor.TQWords.d0 M i).1 = k ∧ M1 = takeF Go.Proofs.YtkbbngkfncbgkaaDoor.TQOrd.ltI Go.Proofs.YtkbbngkfncbgkaaDoor.TQWords.d0 M i)) := by
  rcases key_cases k X with ⟨y, hy, hyk⟩ | hno
  · obtain ⟨i, hi, hie⟩ := h.i.yes hy
    obtain ⟨i2, hi2, hie2⟩ := h.t.yes (List.mem_map.2 ⟨y, hy, rfl⟩)
    have e1 : (at_ Go.Proofs.YtkbbngkfncbgkaaDoor.IQWords.d0 L i).1 = k := by rw [hie]; exact hyk
    have e2 : (at_ Go.Proofs.YtkbbngkfncbgkaaDoor.TQWords.d0 M i2).1 = k := by rw [hie2]; exact hyk
    exact ⟨true, _, _, _, rfl, by rw [getF_yes h.i.s.nk hy hyk], (same_take h hi hi2 e1 e2), Nat.le_trans (List.length_filter_le _ _) (Nat.le_succ _), .inr ⟨rfl, i, hi, e1, rfl⟩, .inr ⟨rfl, i2, hi2, e2, rfl⟩⟩
  · exact ⟨false, L, M, X, filter_all hno, by rw [getF_no hno], h, by omega, .inl ⟨rfl, rfl, h.i.no hno⟩, .inl ⟨rfl, rfl, h.t.no (tw_no wd hno)⟩⟩
theorem move_facts {L : List (Ky × Int)} {M : List (Ky × ByteArray)} {X : List (Ky × Int)} (h : Same L M X) (k : Ky) (hk : KyOk k) (day : Int) (hd : (Lit.int .i64 day).wf = true) : ∃ (x : Int) (L1 : List (Ky × Int)) (M1 : List (Ky × ByteArray)) (Y : List (Ky × Int)),
    moveF k day X = (Y, x) ∧ Same L1 M1 Y ∧ Y.length ≤ X.length + 1 ∧
    ((x = 110 ∧ L1 = L ∧ ∀ i, i < L.length → (at_ Go.Proofs.YtkbbngkfncbgkaaDoor.IQWords.d0 L i).1 ≠ k) ∨ (x = 0 ∧ L1 = L ∧ day = k.d ∧ ∃ i, i < L.length ∧ (at_ Go.Proofs.YtkbbngkfncbgkaaDoor.IQWords.d0 L i).1 = k) ∨
      (x = 110 ∧ L1 = L ∧ day ≠ k.d ∧ (∃ i, i < L.length ∧ (at_ Go.Proofs.YtkbbngkfncbgkaaDoor.IQWords.d0 L i).1 = k) ∧ ∃ i, i < L.length ∧ (at_ Go.Proofs.YtkbbngkfncbgkaaDoor.IQWords.d0 L i).1 = ⟨day, k.l, k.k⟩) ∨
      (x = 0 ∧ day ≠ k.d ∧ (∀ i, i < L.length → (at_ Go.Proofs.YtkbbngkfncbgkaaDoor.IQWords.d0 L i).1 ≠ ⟨day, k.l, k.k⟩) ∧ ∃ i, i < L.length ∧ (at_ Go.Proofs.YtkbbngkfncbgkaaDoor.IQWords.d0 L i).1 = k ∧ L1 = pushF Go.Proofs.YtkbbngkfncbgkaaDoor.IQOrd.ltI Go.Proofs.YtkbbngkfncbgkaaDoor.IQWords.d0 (takeF Go.Proofs.YtkbbngkfncbgkaaDoor.IQOrd.ltI Go.Proofs.YtkbbngkfncbgkaaDoor.IQWords.d0 L i) (⟨day, k.l, k.k⟩, (at_ Go.Proofs.YtkbbngkfncbgkaaDoor.IQWords.d0 L i).2))) ∧
    ((x = 110 ∧ M1 = M ∧ ∀ i, i < M.length → (at_ Go.Proofs.YtkbbngkfncbgkaaDoor.TQWords.d0 M i).1 ≠ k) ∨ (x = 0 ∧ M1 = M ∧ day = k.d ∧ ∃ i, i < M.length ∧ (at_ Go.Proofs.YtkbbngkfncbgkaaDoor.TQWords.d0 M i).1 = k) ∨
      (x = 110 ∧ M1 = M ∧ day ≠ k.d ∧ (∃ i, i < M.length ∧ (at_ Go.Proofs.YtkbbngkfncbgkaaDoor.TQWords.d0 M i).1 = k) ∧ ∃ i, i < M.length ∧ (at_ Go.Proofs.YtkbbngkfncbgkaaDoor.TQWords.d0 M i).1 = ⟨day, k.l, k.k⟩) ∨
      (x = 0 ∧ day ≠ k.d ∧ (∀ i, i < M.length → (at_ Go.Proofs.YtkbbngkfncbgkaaDoor.TQWords.d0 M i).1 ≠ ⟨day, k.l, k.k⟩) ∧ ∃ i, i < M.length ∧ (at_ Go.Proofs.YtkbbngkfncbgkaaDoor.TQWords.d0 M i).1 = k ∧ M1 = pushF Go.Proofs.YtkbbngkfncbgkaaDoor.TQOrd.ltI Go.Proofs.YtkbbngkfncbgkaaDoor.TQWords.d0 (takeF Go.Proofs.YtkbbngkfncbgkaaDoor.TQOrd.ltI Go.Proofs.YtkbbngkfncbgkaaDoor.TQWords.d0 M i) (⟨day, k.l, k.k⟩, (at_ Go.Proofs.YtkbbngkfncbgkaaDoor.TQWords.d0 M i).2))) := by
  have hk2 : KyOk ⟨day, k.l, k.k⟩ := ⟨hd, hk.l, hk.k⟩
  rcases key_cases k X with ⟨y, hy, hyk⟩ | hno
  · obtain ⟨i, hi, hie⟩ := h.i.yes hy
    obtain ⟨i2, hi2, hie2⟩ := h.t.yes (List.mem_map.2 ⟨y, hy, rfl⟩)
    have e1 : (at_ Go.Proofs.YtkbbngkfncbgkaaDoor.IQWords.d0 L i).1 = k := by rw [hie]; exact hyk
    have e2 : (at_ Go.Proofs.YtkbbngkfncbgkaaDoor.TQWords.d0 M i2).1 = k := by rw [hie2]; exact hyk
    have hg := getF_yes h.i.s.nk hy hyk
    by_cases hdk : day = k.d
    · exact ⟨0, L, M, X, by unfold moveF; rw [hg, if_pos rfl, if_pos hdk], h, by omega, .inr (.inl ⟨rfl, rfl, hdk, i, hi, e1⟩), .inr (.inl ⟨rfl, rfl, hdk, i2, hi2, e2⟩)⟩
    · rcases key_cases ⟨day, k.l, k.k⟩ X with ⟨z, hz, hzk⟩ | hno2
      · obtain ⟨j, hj, hje⟩ := h.i.yes hz
        obtain ⟨j2, hj2, hje2⟩ := h.t.yes (List.mem_map.2 ⟨z, hz, rfl⟩)
        exact ⟨110, L, M, X, by unfold moveF; rw [hg, if_pos rfl, if_neg hdk, getF_yes h.i.s.nk hz hzk, if_pos rfl], h, by omega, .inr (.inr (.inl ⟨rfl, rfl, hdk, ⟨i, hi, e1⟩, j, hj, by rw [hje]; exact hzk⟩)), .inr (.inr (.inl ⟨rfl, rfl, hdk, ⟨i2, hi2, e2⟩, j2, hj2, by rw [hje2]; exact hzk⟩))⟩
      · have ht := same_take h hi hi2 e1 e2
        have hno3 : ∀ x ∈ X.filter (nek k), x.1 ≠ ⟨day, k.l, k.k⟩ := fun x hx => hno2 x (List.mem_filter.1 hx).1
        have hs := wI_srt ⟨day, k.l, k.k⟩ y.2 _ ht.i.s hno3
        have n1 : (at_ Go.Proofs.YtkbbngkfncbgkaaDoor.IQWords.d0 L i).2 = y.2 := by rw [hie]
        have n2 : (at_ Go.Proofs.YtkbbngkfncbgkaaDoor.TQWords.d0 M i2).2 = wd y.2 := by rw [hie2]; rfl
        refine ⟨0, pushF Go.Proofs.YtkbbngkfncbgkaaDoor.IQOrd.ltI Go.Proofs.YtkbbngkfncbgkaaDoor.IQWords.d0 (takeF Go.Proofs.YtkbbngkfncbgkaaDoor.IQOrd.ltI Go.Proofs.YtkbbngkfncbgkaaDoor.IQWords.d0 L i) (⟨day, k.l, k.k⟩, y.2), pushF Go.Proofs.YtkbbngkfncbgkaaDoor.TQOrd.ltI Go.Proofs.YtkbbngkfncbgkaaDoor.TQWords.d0 (takeF Go.Proofs.YtkbbngkfncbgkaaDoor.TQOrd.ltI Go.Proofs.YtkbbngkfncbgkaaDoor.TQWords.d0 M i2) (⟨day, k.l, k.k⟩, wd y.2), wI ⟨day, k.l, k.k⟩ y.2 (X.filter (nek k)), ?_, ⟨ht.i.push Go.Proofs.YtkbbngkfncbgkaaDoor.IQOrd.wo (wI_perm _ _ _) hs, ht.t.push Go.Proofs.YtkbbngkfncbgkaaDoor.TQOrd.wo (tw_wI wd _ _ _) (tw_srt wd hs), ht.ok.wI hk2 _, fun x hx => ?_⟩, ?_, .inr (.inr (.inr ⟨rfl, hdk, h.i.no hno2, i, hi, e1, by rw [n1]⟩)), .inr (.inr (.inr ⟨rfl, hdk, h.t.no (tw_no wd hno2), i2, hi2, e2, by rw [n2]⟩))⟩
        · unfold moveF
          rw [hg, if_pos rfl, if_neg hdk, getF_no hno2, if_neg (by decide)]
          rfl
        · rcases List.mem_cons.1 ((wI_perm _ _ _).mem_iff.1 hx) with e | hx
          · rw [e]; exact h.vo y hy
          · exact ht.vo x hx
        · rw [wI_len]
          have := List.length_filter_le (nek k) X
          omega
  · exact ⟨110, L, M, X, by unfold moveF; rw [getF_no hno, if_neg (by decide)], h, by omega, .inl ⟨rfl, rfl, h.i.no hno⟩, .inl ⟨rfl, rfl, h.t.no (tw_no wd hno)⟩⟩
end Go.Proofs.YtkbbngkfncbgkaaDoor.UFacts

namespace Go.Proofs.YtkbbngkfncbgkaaDoor.UStepA
open Go.RowKit Go.Proofs.YtkbbngkfncbgkaaDoor.IQHeap Go.Proofs.YtkbbngkfncbgkaaDoor.UPlain Go.Proofs.YtkbbngkfncbgkaaDoor.URel Go.Proofs.YtkbbngkfncbgkaaDoor.URef Go.Proofs.YtkbbngkfncbgkaaDoor.UTrio Go.Proofs.YtkbbngkfncbgkaaDoorW.PrintWords Go.Proofs.YtkbbngkfncbgkaaDoorW.PrintLast Go.Proofs.YtkbbngkfncbgkaaDoorW.PrintMore Go.Proofs.YtkbbngkfncbgkaaDoor.UWord Go.Proofs.YtkbbngkfncbgkaaDoor.UGets Go.Proofs.YtkbbngkfncbgkaaDoor.UNexts Go.Proofs.YtkbbngkfncbgkaaDoor.UPops Go.Proofs.YtkbbngkfncbgkaaDoor.ULists Go.Proofs.YtkbbngkfncbgkaaDoor.UFacts Go.Proofs.YtkbbngkfncbgkaaDoor.PA
open Go.Proofs.YtkbbngkfncbgkaaDoor.IQWords (Ky KyOk Tn QS Hd)
set_option linter.unusedVariables false
set_option linter.unusedSimpArgs false
set_option maxHeartbeats 8000000 in
set_option maxRecDepth 1000000 in
theorem step_cancel (B : Nat) (F : Nat → Prop) (qi mi : Nat) (vi : Value) (L : List (Ky × Int)) (qt mt : Nat) (vt : Value) (M : List (Ky × ByteArray)) (u : Value) (X : List (Ky × Int)) (w : World) (hM : TM B w F qi mi vi L qt mt vt M u X) (hS : Same L M X) (hx : X.length + 1 < 2950000000000) (oth : Bool) (k : Ky) (hk : KyOk k) (n : Int) (hn : (Lit.int .i64 n).wf = true) :
    Calls Tryd.prog 9 #[.agg #[.pointer (some ⟨qi, 0, none⟩), .pointer (some ⟨qt, 0, none⟩), u], .agg #[.int .i64 3, .bool oth, .int .i64 k.d, .int .i64 k.l, .int .i64 k.k, .int .i64 n]] w fun e w' => StepR B w w' F qi qt (X.length + 1) e := by
  obtain ⟨A, c, rfl⟩ := hM.r.form
  obtain ⟨hM1, hX1, hP1, hR1, hT1⟩ := TM.box3 hM #[.pointer (some ⟨qi, 0, none⟩), .pointer (some ⟨qt, 0, none⟩), .slice A X.length c] #[.int .i64 3, .bool oth, .int .i64 k.d, .int .i64 k.l, .int .i64 k.k, .int .i64 n] #[.pointer none, .pointer none, .slice none 0 0] 33 26 33
  have HM1 := Hd.mk hM1
  have HX1 := Hd.mk hX1
  have HP1 := Hd.mk hP1
  have HR1 := Hd.mk hR1
  have HO1 := Hd.mk (Out.of_tn hT1 F)
  have HS := Hd.mk hS
  have HKO := Hd.mk hk
  have HNW := Hd.mk hn
  have NE0 : Hd (0 ≠ w.heap.size) := ⟨by have := PowAt_lt hM.pw; omega⟩
  have hl : L.length + 1 < 3000000000000 := by rw [hS.i.len]; omega
  have hm : M.length + 1 < 3000000000000 := by rw [hS.t.len, List.length_map]; omega
  have hl2 : L.length < 3000000000000 := by omega
  have hm2 : M.length < 3000000000000 := by omega
  have hx4 : X.length < 4000000000000 := by omega
  have HNB : Hd (-9223372036854775808 ≤ n ∧ n ≤ 9223372036854775807) := ⟨bounds_i64 hn⟩
  obtain ⟨t, L1, M1, Y, f1, f1b, f2, f3, f4, f5⟩ := cancel_facts hS k
  have F1 := Hd.mk f1
  have F1b := Hd.mk f1b
  have F2 := Hd.mk f2
  have F3 := Hd.mk f3
  have F4 := Hd.mk f4
  have F5 := Hd.mk f5
  clear f1 f1b f2 f3 f4 f5
  have e1 : (t == t) = true := by simp
  clear hM hM1 hX1 hP1 hR1 hT1 hS hk hn
  go_enter Tryd.func9, Tryd.ntmps9
  go_upto_region 1 with (fail)
  obtain ⟨tb, htb⟩ : ∃ tb, w.heap.size = tb := ⟨_, rfl⟩
  obtain ⟨ob, hob⟩ : ∃ ob, w.heap.size + 1 = ob := ⟨_, rfl⟩
  obtain ⟨rb, hrb⟩ : ∃ rb, w.heap.size + 1 + 1 = rb := ⟨_, rfl⟩
  have NEt : Hd (0 ≠ tb ∧ 0 ≠ rb ∧ ob ≠ tb ∧ rb ≠ tb ∧ tb ≠ rb ∧ ob ≠ rb ∧ w.heap.size ≤ tb ∧ w.heap.size ≤ rb) := ⟨by have := NE0.out; omega⟩
  try rw [show w.heap.size + 2 = w.heap.size + 1 + 1 from rfl]
  rw [hrb] at HR1 ⊢
  rw [hob] at HP1 ⊢
  rw [htb] at HX1 ⊢
  generalize hW : ((w.alloc (.cells #[.pointer (some ⟨qi, 0, none⟩), .pointer (some ⟨qt, 0, none⟩), .slice A X.length c] 33)).alloc (.cells #[.int .i64 3, .bool oth, .int .i64 k.d, .int .i64 k.l, .int .i64 k.k, .int .i64 n] 26)).alloc (.cells #[.pointer none, .pointer none, .slice none 0 0] 33) = W1 at HM1 HX1 HP1 HR1 HO1 ⊢
  clear hW htb hob hrb NE0
  have t0 : W1.cell? ⟨tb, 0, none⟩ = some (.pointer (some ⟨qi, 0, none⟩)) := cell_of_row W1 tb 0 _ _ (0, 0) HX1.out.at_
  have t1 : W1.cell? ⟨tb, 1, none⟩ = some (.pointer (some ⟨qt, 0, none⟩)) := cell_of_row W1 tb 1 _ _ (0, 0) HX1.out.at_
  have t2 : W1.cell? ⟨tb, 2, none⟩ = some (.slice A X.length c) := cell_of_row W1 tb 2 _ _ (0, 0) HX1.out.at_
  have o0 : W1.cell? ⟨ob, 0, none⟩ = some (.int .i64 3) := cell_of_row W1 ob 0 _ _ (0, 0) HP1.out.at_
  have o1 : W1.cell? ⟨ob, 1, none⟩ = some (.bool oth) := cell_of_row W1 ob 1 _ _ (0, 0) HP1.out.at_
  have o2 : W1.cell? ⟨ob, 2, none⟩ = some (.int .i64 k.d) := cell_of_row W1 ob 2 _ _ (0, 0) HP1.out.at_
  have o3 : W1.cell? ⟨ob, 3, none⟩ = some (.int .i64 k.l) := cell_of_row W1 ob 3 _ _ (0, 0) HP1.out.at_
  have o4 : W1.cell? ⟨ob, 4, none⟩ = some (.int .i64 k.k) := cell_of_row W1 ob 4 _ _ (0, 0) HP1.out.at_
  have o5 : W1.cell? ⟨ob, 5, none⟩ = some (.int .i64 n) := cell_of_row W1 ob 5 _ _ (0, 0) HP1.out.at_
  have r0 : W1.cell? ⟨rb, 0, none⟩ = some (.pointer none) := cell_of_row W1 rb 0 _ _ (0, 0) HR1.out.at_
  have r1 : W1.cell? ⟨rb, 1, none⟩ = some (.pointer none) := cell_of_row W1 rb 1 _ _ (0, 0) HR1.out.at_
  have r2 : W1.cell? ⟨rb, 2, none⟩ = some (.slice none 0 0) := cell_of_row W1 rb 2 _ _ (0, 0) HR1.out.at_
  have hfz : ∀ q, W1.frozen? ⟨tb, q, none⟩ = false := fun q => frozen_of_row W1 tb q _ _ HX1.out.at_
  have hfzr : ∀ q, W1.frozen? ⟨rb, q, none⟩ = false := fun q => frozen_of_row W1 rb q _ _ HR1.out.at_
  go_upto_region 13 with (first | (go_at_call 17; refine (ref_cancel B _ _ X k hx4 HM1.out.r HM1.out.bz Y t F1.out F1b.out).mono ?_; rintro e W2 ⟨u1, rfl, hR2, hT2, hu2⟩; obtain ⟨A1, c1, rfl⟩ := hR2.form; have hO_ := Fx.out (hT2.mono fun _ h => h.elim) HM1.out.fr; have HM2 := Hd.mk (HM1.out.ref hR2 (hT2.mono fun _ h => h.elim) (fun q h => .inr (hu2 q h))); have HX2 := Hd.mk (HX1.out.kept hO_); have HP2 := Hd.mk (HP1.out.kept hO_); have HR2 := Hd.mk (HR1.out.kept hO_); have HO2 := Hd.mk (HO1.out.trans hO_); clear hO_ t0 t1 t2 o0 o1 o2 o3 o4 o5 r0 r1 r2 hR2 hT2 hu2 hfz hfzr; have t0 : W2.cell? ⟨tb, 0, none⟩ = some (.pointer (some ⟨qi, 0, none⟩)) := cell_of_row W2 tb 0 _ _ (0, 0) HX2.out.at_; have t1 : W2.cell? ⟨tb, 1, none⟩ = some (.pointer (some ⟨qt, 0, none⟩)) := cell_of_row W2 tb 1 _ _ (0, 0) HX2.out.at_; have t2 : W2.cell? ⟨tb, 2, none⟩ = some (.slice A X.length c) := cell_of_row W2 tb 2 _ _ (0, 0) HX2.out.at_; have o0 : W2.cell? ⟨ob, 0, none⟩ = some (.int .i64 3) := cell_of_row W2 ob 0 _ _ (0, 0) HP2.out.at_; have o1 : W2.cell? ⟨ob, 1, none⟩ = some (.bool oth) := cell_of_row W2 ob 1 _ _ (0, 0) HP2.out.at_; have o2 : W2.cell? ⟨ob, 2, none⟩ = some (.int .i64 k.d) := cell_of_row W2 ob 2 _ _ (0, 0) HP2.out.at_; have o3 : W2.cell? ⟨ob, 3, none⟩ = some (.int .i64 k.l) := cell_of_row W2 ob 3 _ _ (0, 0) HP2.out.at_; have o4 : W2.cell? ⟨ob, 4, none⟩ = some (.int .i64 k.k) := cell_of_row W2 ob 4 _ _ (0, 0) HP2.out.at_; have o5 : W2.cell? ⟨ob, 5, none⟩ = some (.int .i64 n) := cell_of_row W2 ob 5 _ _ (0, 0) HP2.out.at_; have r0 : W2.cell? ⟨rb, 0, none⟩ = some (.pointer none) := cell_of_row W2 rb 0 _ _ (0, 0) HR2.out.at_; have r1 : W2.cell? ⟨rb, 1, none⟩ = some (.pointer none) := cell_of_row W2 rb 1 _ _ (0, 0) HR2.out.at_; have r2 : W2.cell? ⟨rb, 2, none⟩ = some (.slice none 0 0) := cell_of_row W2 rb 2 _ _ (0, 0) HR2.out.at_; have hfz : ∀ q, W2.frozen? ⟨tb, q, none⟩ = false := fun q => frozen_of_row W2 tb q _ _ HX2.out.at_; have hfzr : ∀ q, W2.frozen? ⟨rb, q, none⟩ = false := fun q => frozen_of_row W2 rb q _ _ HR2.out.at_; generalize hF : Fx F W1 W2 = F2_ at HM2 HX2 HP2 HR2 HO2; clear hF))
  obtain ⟨hr8, ht8⟩ := set1 (.slice A1 Y.length c1) HX2.out.at_
  have HR_ := Hd.mk hr8
  generalize hW : W2.setCell ⟨tb, 2, none⟩ (.slice A1 Y.length c1) = W3 at HR_ ht8 ⊢
  have HM3 := Hd.mk (HM2.out.frame ht8 (fun k h e => HX2.out.out (by rw [← e]; exact h)) (fun e => NEt.out.1 e))
  have HX3 : Hd (Bx W3 F2_ tb _) := ⟨⟨HR_.out, HX2.out.out⟩⟩
  have HP3 : Hd (Bx W3 F2_ ob _) := ⟨⟨ht8.blk HP2.out.at_ NEt.out.2.2.1, HP2.out.out⟩⟩
  have HR3 : Hd (Bx W3 F2_ rb _) := ⟨⟨ht8.blk HR2.out.at_ NEt.out.2.2.2.1, HR2.out.out⟩⟩
  have HO3 : Hd (Out w W3 F F2_) := ⟨HO2.out.tn.then_ ht8 (fun q h => .inr (by rw [h]; exact NEt.out.2.2.2.2.2.2.1)), HO2.out.sub⟩
  clear hW ht8 hr8 HR_ hfz hfzr t0 t1 t2 o0 o1 o2 o3 o4 o5 r0 r1 r2
  have t0 : W3.cell? ⟨tb, 0, none⟩ = some (.pointer (some ⟨qi, 0, none⟩)) := cell_of_row W3 tb 0 _ _ (0, 0) HX3.out.at_
  have t1 : W3.cell? ⟨tb, 1, none⟩ = some (.pointer (some ⟨qt, 0, none⟩)) := cell_of_row W3 tb 1 _ _ (0, 0) HX3.out.at_
  have t2 : W3.cell? ⟨tb, 2, none⟩ = some (.slice A1 Y.length c1) := cell_of_row W3 tb 2 _ _ (0, 0) HX3.out.at_
  have o0 : W3.cell? ⟨ob, 0, none⟩ = some (.int .i64 3) := cell_of_row W3 ob 0 _ _ (0, 0) HP3.out.at_
  have o1 : W3.cell? ⟨ob, 1, none⟩ = some (.bool oth) := cell_of_row W3 ob 1 _ _ (0, 0) HP3.out.at_
  have o2 : W3.cell? ⟨ob, 2, none⟩ = some (.int .i64 k.d) := cell_of_row W3 ob 2 _ _ (0, 0) HP3.out.at_
  have o3 : W3.cell? ⟨ob, 3, none⟩ = some (.int .i64 k.l) := cell_of_row W3 ob 3 _ _ (0, 0) HP3.out.at_
  have o4 : W3.cell? ⟨ob, 4, none⟩ = some (.int .i64 k.k) := cell_of_row W3 ob 4 _ _ (0, 0) HP3.out.at_
  have o5 : W3.cell? ⟨ob, 5, none⟩ = some (.int .i64 n) := cell_of_row W3 ob 5 _ _ (0, 0) HP3.out.at_
  have r0 : W3.cell? ⟨rb, 0, none⟩ = some (.pointer none) := cell_of_row W3 rb 0 _ _ (0, 0) HR3.out.at_
  have r1 : W3.cell? ⟨rb, 1, none⟩ = some (.pointer none) := cell_of_row W3 rb 1 _ _ (0, 0) HR3.out.at_
  have r2 : W3.cell? ⟨rb, 2, none⟩ = some (.slice none 0 0) := cell_of_row W3 rb 2 _ _ (0, 0) HR3.out.at_
  have hfz : ∀ q, W3.frozen? ⟨tb, q, none⟩ = false := fun q => frozen_of_row W3 tb q _ _ HX3.out.at_
  have hfzr : ∀ q, W3.frozen? ⟨rb, q, none⟩ = false := fun q => frozen_of_row W3 rb q _ _ HR3.out.at_
  go_upto_region 14 with (first | (go_at_call 18; refine (cancelI qi mi vi k L L1 t _ HKO.out hl2 HM3.out.i F4.out).mono ?_; rintro e W4 ⟨rfl, v1, hQ4, hT4, hv4⟩; have hO_ := Fx.out hT4 HM3.out.fi; have HM4 := Hd.mk (HM3.out.int hQ4 hT4 hv4); have HX4 := Hd.mk (HX3.out.kept hO_); have HP4 := Hd.mk (HP3.out.kept hO_); have HR4 := Hd.mk (HR3.out.kept hO_); have HO4 := Hd.mk (HO3.out.trans hO_); clear hO_ t0 t1 t2 o0 o1 o2 o3 o4 o5 r0 r1 r2 hQ4 hT4 hv4 hfz hfzr; have t0 : W4.cell? ⟨tb, 0, none⟩ = some (.pointer (some ⟨qi, 0, none⟩)) := cell_of_row W4 tb 0 _ _ (0, 0) HX4.out.at_; have t1 : W4.cell? ⟨tb, 1, none⟩ = some (.pointer (some ⟨qt, 0, none⟩)) := cell_of_row W4 tb 1 _ _ (0, 0) HX4.out.at_; have t2 : W4.cell? ⟨tb, 2, none⟩ = some (.slice A1 Y.length c1) := cell_of_row W4 tb 2 _ _ (0, 0) HX4.out.at_; have o0 : W4.cell? ⟨ob, 0, none⟩ = some (.int .i64 3) := cell_of_row W4 ob 0 _ _ (0, 0) HP4.out.at_; have o1 : W4.cell? ⟨ob, 1, none⟩ = some (.bool oth) := cell_of_row W4 ob 1 _ _ (0, 0) HP4.out.at_; have o2 : W4.cell? ⟨ob, 2, none⟩ = some (.int .i64 k.d) := cell_of_row W4 ob 2 _ _ (0, 0) HP4.out.at_; have o3 : W4.cell? ⟨ob, 3, none⟩ = some (.int .i64 k.l) := cell_of_row W4 ob 3 _ _ (0, 0) HP4.out.at_; have o4 : W4.cell? ⟨ob, 4, none⟩ = some (.int .i64 k.k) := cell_of_row W4 ob 4 _ _ (0, 0) HP4.out.at_; have o5 : W4.cell? ⟨ob, 5, none⟩ = some (.int .i64 n) := cell_of_row W4 ob 5 _ _ (0, 0) HP4.out.at_; have r0 : W4.cell? ⟨rb, 0, none⟩ = some (.pointer none) := cell_of_row W4 rb 0 _ _ (0, 0) HR4.out.at_; have r1 : W4.cell? ⟨rb, 1, none⟩ = some (.pointer none) := cell_of_row W4 rb 1 _ _ (0, 0) HR4.out.at_; have r2 : W4.cell? ⟨rb, 2, none⟩ = some (.slice none 0 0) := cell_of_row W4 rb 2 _ _ (0, 0) HR4.out.at_; have hfz : ∀ q, W4.frozen? ⟨tb, q, none⟩ = false := fun q => frozen_of_row W4 tb q _ _ HX4.out.at_; have hfzr : ∀ q, W4.frozen? ⟨rb, q, none⟩ = false := fun q => frozen_of_row W4 rb q _ _ HR4.out.at_; generalize hF : Fx F2_ W3 W4 = F3_ at HM4 HX4 HP4 HR4 HO4; clear hF))
  go_upto_region 15 with (first | (go_at_call 19; refine (cancelT qt mt vt k M M1 t _ HKO.out hm2 HM4.out.t F5.out).mono ?_; rintro e W5 ⟨rfl, v2, hQ5, hT5, hv5⟩; have hO_ := Fx.out hT5 HM4.out.ft; have HM5 := Hd.mk (HM4.out.txt hQ5 hT5 hv5); have HX5 := Hd.mk (HX4.out.kept hO_); have HP5 := Hd.mk (HP4.out.kept hO_); have HR5 := Hd.mk (HR4.out.kept hO_); have HO5 := Hd.mk (HO4.out.trans hO_); clear hO_ t0 t1 t2 o0 o1 o2 o3 o4 o5 r0 r1 r2 hQ5 hT5 hv5 hfz hfzr; have t0 : W5.cell? ⟨tb, 0, none⟩ = some (.pointer (some ⟨qi, 0, none⟩)) := cell_of_row W5 tb 0 _ _ (0, 0) HX5.out.at_; have t1 : W5.cell? ⟨tb, 1, none⟩ = some (.pointer (some ⟨qt, 0, none⟩)) := cell_of_row W5 tb 1 _ _ (0, 0) HX5.out.at_; have t2 : W5.cell? ⟨tb, 2, none⟩ = some (.slice A1 Y.length c1) := cell_of_row W5 tb 2 _ _ (0, 0) HX5.out.at_; have o0 : W5.cell? ⟨ob, 0, none⟩ = some (.int .i64 3) := cell_of_row W5 ob 0 _ _ (0, 0) HP5.out.at_; have o1 : W5.cell? ⟨ob, 1, none⟩ = some (.bool oth) := cell_of_row W5 ob 1 _ _ (0, 0) HP5.out.at_; have o2 : W5.cell? ⟨ob, 2, none⟩ = some (.int .i64 k.d) := cell_of_row W5 ob 2 _ _ (0, 0) HP5.out.at_; have o3 : W5.cell? ⟨ob, 3, none⟩ = some (.int .i64 k.l) := cell_of_row W5 ob 3 _ _ (0, 0) HP5.out.at_; have o4 : W5.cell? ⟨ob, 4, none⟩ = some (.int .i64 k.k) := cell_of_row W5 ob 4 _ _ (0, 0) HP5.out.at_; have o5 : W5.cell? ⟨ob, 5, none⟩ = some (.int .i64 n) := cell_of_row W5 ob 5 _ _ (0, 0) HP5.out.at_; have r0 : W5.cell? ⟨rb, 0, none⟩ = some (.pointer none) := cell_of_row W5 rb 0 _ _ (0, 0) HR5.out.at_; have r1 : W5.cell? ⟨rb, 1, none⟩ = some (.pointer none) := cell_of_row W5 rb 1 _ _ (0, 0) HR5.out.at_; have r2 : W5.cell? ⟨rb, 2, none⟩ = some (.slice none 0 0) := cell_of_row W5 rb 2 _ _ (0, 0) HR5.out.at_; have hfz : ∀ q, W5.frozen? ⟨tb, q, none⟩ = false := fun q => frozen_of_row W5 tb q _ _ HX5.out.at_; have hfzr : ∀ q, W5.frozen? ⟨rb, q, none⟩ = false := fun q => frozen_of_row W5 rb q _ _ HR5.out.at_; generalize hF : Fx F3_ W4 W5 = F4_ at HM5 HX5 HP5 HR5 HO5; clear hF))
  obtain ⟨hr9, hT9⟩ := set3 (.pointer (some ⟨qi, 0, none⟩)) (.pointer (some ⟨qt, 0, none⟩)) (.slice A1 Y.length c1) HR5.out.at_
  have HR9 := Hd.mk hr9
  go_wp2
  generalize hW : ((W5.setCell ⟨rb, 0, none⟩ (.pointer (some ⟨qi, 0, none⟩))).setCell ⟨rb, 1, none⟩ (.pointer (some ⟨qt, 0, none⟩))).setCell ⟨rb, 2, none⟩ (.slice A1 Y.length c1) = W9_ at HR9 hT9 ⊢
  clear hW hr9
  have HM9 := Hd.mk (HM5.out.frame hT9 (fun k h e => HR5.out.out (by rw [← e]; exact h)) (fun e => NEt.out.2.1 e))
  have HO9 : Hd (Out w W9_ F F4_) := ⟨⟨HO5.out.tn.then_ hT9 (fun q h => .inr (by rw [h]; exact NEt.out.2.2.2.2.2.2.2)), HO5.out.sub⟩⟩
  (try simp only [Exit.inBlock, Exit.then])
  refine bodyPost_ret (results_list (rs := [.cell 4 33, .tmp 5]) rfl (by simp) (.cell rb 33 _ (0, 0) _ rfl HR9.out Tryd.underlying33 rfl (by kernel_rfl) (.tmp .nil))) rfl ?_
  exact ⟨F4_, mi, v1, L1, mt, v2, M1, _, Y, rfl, HM9.out, F2.out, HO9.out, F3.out⟩
set_option maxHeartbeats 8000000 in
set_option maxRecDepth 1000000 in
theorem step_move (B : Nat) (F : Nat → Prop) (qi mi : Nat) (vi : Value) (L : List (Ky × Int)) (qt mt : Nat) (vt : Value) (M : List (Ky × ByteArray)) (u : Value) (X : List (Ky × Int)) (w : World) (hM : TM B w F qi mi vi L qt mt vt M u X) (hS : Same L M X) (hx : X.length + 1 < 2950000000000) (oth : Bool) (k : Ky) (hk : KyOk k) (n : Int) (hn : (Lit.int .i64 n).wf = true) :
    Calls Tryd.prog 9 #[.agg #[.pointer (some ⟨qi, 0, none⟩), .pointer (some ⟨qt, 0, none⟩), u], .agg #[.int .i64 4, .bool oth, .int .i64 k.d, .int .i64 k.l, .int .i64 k.k, .int .i64 n]] w fun e w' => StepR B w w' F qi qt (X.length + 1) e := by
  obtain ⟨A, c, rfl⟩ := hM.r.form
  obtain ⟨hM1, hX1, hP1, hR1, hT1⟩ := TM.box3 hM #[.pointer (some ⟨qi, 0, none⟩), .pointer (some ⟨qt, 0, none⟩), .slice A X.length c] #[.int .i64 4, .bool oth, .int .i64 k.d, .int .i64 k.l, .int .i64 k.k, .int .i64 n] #[.pointer none, .pointer none, .slice none 0 0] 33 26 33
  have HM1 := Hd.mk hM1
  have HX1 := Hd.mk hX1
  have HP1 := Hd.mk hP1
  have HR1 := Hd.mk hR1
  have HO1 := Hd.mk (Out.of_tn hT1 F)
  have HS := Hd.mk hS
  have HKO := Hd.mk hk
  have HNW := Hd.mk hn
  have NE0 : Hd (0 ≠ w.heap.size) := ⟨by have := PowAt_lt hM.pw; omega⟩
  have hl : L.length + 1 < 3000000000000 := by rw [hS.i.len]; omega
  have hm : M.length + 1 < 3000000000000 := by rw [hS.t.len, List.length_map]; omega
  have hl2 : L.length < 3000000000000 := by omega
  have hm2 : M.length < 3000000000000 := by omega
  have hx4 : X.length < 4000000000000 := by omega
  have HNB : Hd (-9223372036854775808 ≤ n ∧ n ≤ 9223372036854775807) := ⟨bounds_i64 hn⟩
  obtain ⟨x, L1, M1, Y, f1, f2, f3, f4, f5⟩ := move_facts hS k hk n hn
  have F1 := Hd.mk f1
  have F2 := Hd.mk f2
  have F3 := Hd.mk f3
  have F4 := Hd.mk f4
  have F5 := Hd.mk f5
  clear f1 f2 f3 f4 f5
  have e1 : (x == x) = true := by simp
  clear hM hM1 hX1 hP1 hR1 hT1 hS hk hn
  go_enter Tryd.func9, Tryd.ntmps9
  go_upto_region 1 with (fail)
  obtain ⟨tb, htb⟩ : ∃ tb, w.heap.size = tb := ⟨_, rfl⟩
  obtain ⟨ob, hob⟩ : ∃ ob, w.heap.size + 1 = ob := ⟨_, rfl⟩
  obtain ⟨rb, hrb⟩ : ∃ rb, w.heap.size + 1 + 1 = rb := ⟨_, rfl⟩
  have NEt : Hd (0 ≠ tb ∧ 0 ≠ rb ∧ ob ≠ tb ∧ rb ≠ tb ∧ tb ≠ rb ∧ ob ≠ rb ∧ w.heap.size ≤ tb ∧ w.heap.size ≤ rb) := ⟨by have := NE0.out; omega⟩
  try rw [show w.heap.size + 2 = w.heap.size + 1 + 1 from rfl]
  rw [hrb] at HR1 ⊢
  rw [hob] at HP1 ⊢
  rw [htb] at HX1 ⊢
  generalize hW : ((w.alloc (.cells #[.pointer (some ⟨qi, 0, none⟩), .pointer (some ⟨qt, 0, none⟩), .slice A X.length c] 33)).alloc (.cells #[.int .i64 4, .bool oth, .int .i64 k.d, .int .i64 k.l, .int .i64 k.k, .int .i64 n] 26)).alloc (.cells #[.pointer none, .pointer none, .slice none 0 0] 33) = W1 at HM1 HX1 HP1 HR1 HO1 ⊢
  clear hW htb hob hrb NE0
  have t0 : W1.cell? ⟨tb, 0, none⟩ = some (.pointer (some ⟨qi, 0, none⟩)) := cell_of_row W1 tb 0 _ _ (0, 0) HX1.out.at_
  have t1 : W1.cell? ⟨tb, 1, none⟩ = some (.pointer (some ⟨qt, 0, none⟩)) := cell_of_row W1 tb 1 _ _ (0, 0) HX1.out.at_
  have t2 : W1.cell? ⟨tb, 2, none⟩ = some (.slice A X.length c) := cell_of_row W1 tb 2 _ _ (0, 0) HX1.out.at_
  have o0 : W1.cell? ⟨ob, 0, none⟩ = some (.int .i64 4) := cell_of_row W1 ob 0 _ _ (0, 0) HP1.out.at_
  have o1 : W1.cell? ⟨ob, 1, none⟩ = some (.bool oth) := cell_of_row W1 ob 1 _ _ (0, 0) HP1.out.at_
  have o2 : W1.cell? ⟨ob, 2, none⟩ = some (.int .i64 k.d) := cell_of_row W1 ob 2 _ _ (0, 0) HP1.out.at_
  have o3 : W1.cell? ⟨ob, 3, none⟩ = some (.int .i64 k.l) := cell_of_row W1 ob 3 _ _ (0, 0) HP1.out.at_
  have o4 : W1.cell? ⟨ob, 4, none⟩ = some (.int .i64 k.k) := cell_of_row W1 ob 4 _ _ (0, 0) HP1.out.at_
  have o5 : W1.cell? ⟨ob, 5, none⟩ = some (.int .i64 n) := cell_of_row W1 ob 5 _ _ (0, 0) HP1.out.at_
  have r0 : W1.cell? ⟨rb, 0, none⟩ = some (.pointer none) := cell_of_row W1 rb 0 _ _ (0, 0) HR1.out.at_
  have r1 : W1.cell? ⟨rb, 1, none⟩ = some (.pointer none) := cell_of_row W1 rb 1 _ _ (0, 0) HR1.out.at_
  have r2 : W1.cell? ⟨rb, 2, none⟩ = some (.slice none 0 0) := cell_of_row W1 rb 2 _ _ (0, 0) HR1.out.at_
  have hfz : ∀ q, W1.frozen? ⟨tb, q, none⟩ = false := fun q => frozen_of_row W1 tb q _ _ HX1.out.at_
  have hfzr : ∀ q, W1.frozen? ⟨rb, q, none⟩ = false := fun q => frozen_of_row W1 rb q _ _ HR1.out.at_
  go_upto_region 18 with (first | (go_at_call 20; refine (ref_move B _ _ X k hx4 HM1.out.r HM1.out.bz n Y x F1.out).mono ?_; rintro e W2 ⟨u1, rfl, hR2, hT2, hu2⟩; obtain ⟨A1, c1, rfl⟩ := hR2.form; have hO_ := Fx.out hT2 HM1.out.fr; have HM2 := Hd.mk (HM1.out.ref hR2 hT2 hu2); have HX2 := Hd.mk (HX1.out.kept hO_); have HP2 := Hd.mk (HP1.out.kept hO_); have HR2 := Hd.mk (HR1.out.kept hO_); have HO2 := Hd.mk (HO1.out.trans hO_); clear hO_ t0 t1 t2 o0 o1 o2 o3 o4 o5 r0 r1 r2 hR2 hT2 hu2 hfz hfzr; have t0 : W2.cell? ⟨tb, 0, none⟩ = some (.pointer (some ⟨qi, 0, none⟩)) := cell_of_row W2 tb 0 _ _ (0, 0) HX2.out.at_; have t1 : W2.cell? ⟨tb, 1, none⟩ = some (.pointer (some ⟨qt, 0, none⟩)) := cell_of_row W2 tb 1 _ _ (0, 0) HX2.out.at_; have t2 : W2.cell? ⟨tb, 2, none⟩ = some (.slice A X.length c) := cell_of_row W2 tb 2 _ _ (0, 0) HX2.out.at_; have o0 : W2.cell? ⟨ob, 0, none⟩ = some (.int .i64 4) := cell_of_row W2 ob 0 _ _ (0, 0) HP2.out.at_; have o1 : W2.cell? ⟨ob, 1, none⟩ = some (.bool oth) := cell_of_row W2 ob 1 _ _ (0, 0) HP2.out.at_; have o2 : W2.cell? ⟨ob, 2, none⟩ = some (.int .i64 k.d) := cell_of_row W2 ob 2 _ _ (0, 0) HP2.out.at_; have o3 : W2.cell? ⟨ob, 3, none⟩ = some (.int .i64 k.l) := cell_of_row W2 ob 3 _ _ (0, 0) HP2.out.at_; have o4 : W2.cell? ⟨ob, 4, none⟩ = some (.int .i64 k.k) := cell_of_row W2 ob 4 _ _ (0, 0) HP2.out.at_; have o5 : W2.cell? ⟨ob, 5, none⟩ = some (.int .i64 n) := cell_of_row W2 ob 5 _ _ (0, 0) HP2.out.at_; have r0 : W2.cell? ⟨rb, 0, none⟩ = some (.pointer none) := cell_of_row W2 rb 0 _ _ (0, 0) HR2.out.at_; have r1 : W2.cell? ⟨rb, 1, none⟩ = some (.pointer none) := cell_of_row W2 rb 1 _ _ (0, 0) HR2.out.at_; have r2 : W2.cell? ⟨rb, 2, none⟩ = some (.slice none 0 0) := cell_of_row W2 rb 2 _ _ (0, 0) HR2.out.at_; have hfz : ∀ q, W2.frozen? ⟨tb, q, none⟩ = false := fun q => frozen_of_row W2 tb q _ _ HX2.out.at_; have hfzr : ∀ q, W2.frozen? ⟨rb, q, none⟩ = false := fun q => frozen_of_row W2 rb q _ _ HR2.out.at_; generalize hF : Fx F W1 W2 = F2_ at HM2 HX2 HP2 HR2 HO2; clear hF))
  obtain ⟨hr8, ht8⟩ := set1 (.slice A1 Y.length c1) HX2.out.at_
  have HR_ := Hd.mk hr8
  generalize hW : W2.setCell ⟨tb, 2, none⟩ (.slice A1 Y.length c1) = W3 at HR_ ht8 ⊢
  have HM3 := Hd.mk (HM2.out.frame ht8 (fun k h e => HX2.out.out (by rw [← e]; exact h)) (fun e => NEt.out.1 e))
  have HX3 : Hd (Bx W3 F2_ tb _) := ⟨⟨HR_.out, HX2.out.out⟩⟩
  have HP3 : Hd (Bx W3 F2_ ob _) := ⟨⟨ht8.blk HP2.out.at_ NEt.out.2.2.1, HP2.out.out⟩⟩
  have HR3 : Hd (Bx W3 F2_ rb _) := ⟨⟨ht8.blk HR2.out.at_ NEt.out.2.2.2.1, HR2.out.out⟩⟩
  have HO3 : Hd (Out w W3 F F2_) := ⟨HO2.out.tn.then_ ht8 (fun q h => .inr (by rw [h]; exact NEt.out.2.2.2.2.2.2.1)), HO2.out.sub⟩
  clear hW ht8 hr8 HR_ hfz hfzr t0 t1 t2 o0 o1 o2 o3 o4 o5 r0 r1 r2
  have t0 : W3.cell? ⟨tb, 0, none⟩ = some (.pointer (some ⟨qi, 0, none⟩)) := cell_of_row W3 tb 0 _ _ (0, 0) HX3.out.at_
  have t1 : W3.cell? ⟨tb, 1, none⟩ = some (.pointer (some ⟨qt, 0, none⟩)) := cell_of_row W3 tb 1 _ _ (0, 0) HX3.out.at_
  have t2 : W3.cell? ⟨tb, 2, none⟩ = some (.slice A1 Y.length c1) := cell_of_row W3 tb 2 _ _ (0, 0) HX3.out.at_
  have o0 : W3.cell? ⟨ob, 0, none⟩ = some (.int .i64 4) := cell_of_row W3 ob 0 _ _ (0, 0) HP3.out.at_
  have o1 : W3.cell? ⟨ob, 1, none⟩ = some (.bool oth) := cell_of_row W3 ob 1 _ _ (0, 0) HP3.out.at_
  have o2 : W3.cell? ⟨ob, 2, none⟩ = some (.int .i64 k.d) := cell_of_row W3 ob 2 _ _ (0, 0) HP3.out.at_
  have o3 : W3.cell? ⟨ob, 3, none⟩ = some (.int .i64 k.l) := cell_of_row W3 ob 3 _ _ (0, 0) HP3.out.at_
  have o4 : W3.cell? ⟨ob, 4, none⟩ = some (.int .i64 k.k) := cell_of_row W3 ob 4 _ _ (0, 0) HP3.out.at_
  have o5 : W3.cell? ⟨ob, 5, none⟩ = some (.int .i64 n) := cell_of_row W3 ob 5 _ _ (0, 0) HP3.out.at_
  have r0 : W3.cell? ⟨rb, 0, none⟩ = some (.pointer none) := cell_of_row W3 rb 0 _ _ (0, 0) HR3.out.at_
  have r1 : W3.cell? ⟨rb, 1, none⟩ = some (.pointer none) := cell_of_row W3 rb 1 _ _ (0, 0) HR3.out.at_
  have r2 : W3.cell? ⟨rb, 2, none⟩ = some (.slice none 0 0) := cell_of_row W3 rb 2 _ _ (0, 0) HR3.out.at_
  have hfz : ∀ q, W3.frozen? ⟨tb, q, none⟩ = false := fun q => frozen_of_row W3 tb q _ _ HX3.out.at_
  have hfzr : ∀ q, W3.frozen? ⟨rb, q, none⟩ = false := fun q => frozen_of_row W3 rb q _ _ HR3.out.at_
  go_upto_region 19 with (first | (go_at_call 21; refine (moveI qi mi vi k n L L1 x _ HKO.out HNW.out hl HM3.out.i F4.out).mono ?_; rintro e W4 ⟨rfl, v1, hQ4, hT4, hv4⟩; have hO_ := Fx.out hT4 HM3.out.fi; have HM4 := Hd.mk (HM3.out.int hQ4 hT4 hv4); have HX4 := Hd.mk (HX3.out.kept hO_); have HP4 := Hd.mk (HP3.out.kept hO_); have HR4 := Hd.mk (HR3.out.kept hO_); have HO4 := Hd.mk (HO3.out.trans hO_); clear hO_ t0 t1 t2 o0 o1 o2 o3 o4 o5 r0 r1 r2 hQ4 hT4 hv4 hfz hfzr; have t0 : W4.cell? ⟨tb, 0, none⟩ = some (.pointer (some ⟨qi, 0, none⟩)) := cell_of_row W4 tb 0 _ _ (0, 0) HX4.out.at_; have t1 : W4.cell? ⟨tb, 1, none⟩ = some (.pointer (some ⟨qt, 0, none⟩)) := cell_of_row W4 tb 1 _ _ (0, 0) HX4.out.at_; have t2 : W4.cell? ⟨tb, 2, none⟩ = some (.slice A1 Y.length c1) := cell_of_row W4 tb 2 _ _ (0, 0) HX4.out.at_; have o0 : W4.cell? ⟨ob, 0, none⟩ = some (.int .i64 4) := cell_of_row W4 ob 0 _ _ (0, 0) HP4.out.at_; have o1 : W4.cell? ⟨ob, 1, none⟩ = some (.bool oth) := cell_of_row W4 ob 1 _ _ (0, 0) HP4.out.at_; have o2 : W4.cell? ⟨ob, 2, none⟩ = some (.int .i64 k.d) := cell_of_row W4 ob 2 _ _ (0, 0) HP4.out.at_; have o3 : W4.cell? ⟨ob, 3, none⟩ = some (.int .i64 k.l) := cell_of_row W4 ob 3 _ _ (0, 0) HP4.out.at_; have o4 : W4.cell? ⟨ob, 4, none⟩ = some (.int .i64 k.k) := cell_of_row W4 ob 4 _ _ (0, 0) HP4.out.at_; have o5 : W4.cell? ⟨ob, 5, none⟩ = some (.int .i64 n) := cell_of_row W4 ob 5 _ _ (0, 0) HP4.out.at_; have r0 : W4.cell? ⟨rb, 0, none⟩ = some (.pointer none) := cell_of_row W4 rb 0 _ _ (0, 0) HR4.out.at_; have r1 : W4.cell? ⟨rb, 1, none⟩ = some (.pointer none) := cell_of_row W4 rb 1 _ _ (0, 0) HR4.out.at_; have r2 : W4.cell? ⟨rb, 2, none⟩ = some (.slice none 0 0) := cell_of_row W4 rb 2 _ _ (0, 0) HR4.out.at_; have hfz : ∀ q, W4.frozen? ⟨tb, q, none⟩ = false := fun q => frozen_of_row W4 tb q _ _ HX4.out.at_; have hfzr : ∀ q, W4.frozen? ⟨rb, q, none⟩ = false := fun q => frozen_of_row W4 rb q _ _ HR4.out.at_; generalize hF : Fx F2_ W3 W4 = F3_ at HM4 HX4 HP4 HR4 HO4; clear hF))
  go_upto_region 20 with (first | (go_at_call 22; refine (moveT qt mt vt k n M M1 x _ HKO.out HNW.out hm HM4.out.t F5.out).mono ?_; rintro e W5 ⟨rfl, v2, hQ5, hT5, hv5⟩; have hO_ := Fx.out hT5 HM4.out.ft; have HM5 := Hd.mk (HM4.out.txt hQ5 hT5 hv5); have HX5 := Hd.mk (HX4.out.kept hO_); have HP5 := Hd.mk (HP4.out.kept hO_); have HR5 := Hd.mk (HR4.out.kept hO_); have HO5 := Hd.mk (HO4.out.trans hO_); clear hO_ t0 t1 t2 o0 o1 o2 o3 o4 o5 r0 r1 r2 hQ5 hT5 hv5 hfz hfzr; have t0 : W5.cell? ⟨tb, 0, none⟩ = some (.pointer (some ⟨qi, 0, none⟩)) := cell_of_row W5 tb 0 _ _ (0, 0) HX5.out.at_; have t1 : W5.cell? ⟨tb, 1, none⟩ = some (.pointer (some ⟨qt, 0, none⟩)) := cell_of_row W5 tb 1 _ _ (0, 0) HX5.out.at_; have t2 : W5.cell? ⟨tb, 2, none⟩ = some (.slice A1 Y.length c1) := cell_of_row W5 tb 2 _ _ (0, 0) HX5.out.at_; have o0 : W5.cell? ⟨ob, 0, none⟩ = some (.int .i64 4) := cell_of_row W5 ob 0 _ _ (0, 0) HP5.out.at_; have o1 : W5.cell? ⟨ob, 1, none⟩ = some (.bool oth) := cell_of_row W5 ob 1 _ _ (0, 0) HP5.out.at_; have o2 : W5.cell? ⟨ob, 2, none⟩ = some (.int .i64 k.d) := cell_of_row W5 ob 2 _ _ (0, 0) HP5.out.at_; have o3 : W5.cell? ⟨ob, 3, none⟩ = some (.int .i64 k.l) := cell_of_row W5 ob 3 _ _ (0, 0) HP5.out.at_; have o4 : W5.cell? ⟨ob, 4, none⟩ = some (.int .i64 k.k) := cell_of_row W5 ob 4 _ _ (0, 0) HP5.out.at_; have o5 : W5.cell? ⟨ob, 5, none⟩ = some (.int .i64 n) := cell_of_row W5 ob 5 _ _ (0, 0) HP5.out.at_; have r0 : W5.cell? ⟨rb, 0, none⟩ = some (.pointer none) := cell_of_row W5 rb 0 _ _ (0, 0) HR5.out.at_; have r1 : W5.cell? ⟨rb, 1, none⟩ = some (.pointer none) := cell_of_row W5 rb 1 _ _ (0, 0) HR5.out.at_; have r2 : W5.cell? ⟨rb, 2, none⟩ = some (.slice none 0 0) := cell_of_row W5 rb 2 _ _ (0, 0) HR5.out.at_; have hfz : ∀ q, W5.frozen? ⟨tb, q, none⟩ = false := fun q => frozen_of_row W5 tb q _ _ HX5.out.at_; have hfzr : ∀ q, W5.frozen? ⟨rb, q, none⟩ = false := fun q => frozen_of_row W5 rb q _ _ HR5.out.at_; generalize hF : Fx F3_ W4 W5 = F4_ at HM5 HX5 HP5 HR5 HO5; clear hF))
  obtain ⟨hr9, hT9⟩ := set3 (.pointer (some ⟨qi, 0, none⟩)) (.pointer (some ⟨qt, 0, none⟩)) (.slice A1 Y.length c1) HR5.out.at_
  have HR9 := Hd.mk hr9
  go_wp2
  generalize hW : ((W5.setCell ⟨rb, 0, none⟩ (.pointer (some ⟨qi, 0, none⟩))).setCell ⟨rb, 1, none⟩ (.pointer (some ⟨qt, 0, none⟩))).setCell ⟨rb, 2, none⟩ (.slice A1 Y.length c1) = W9_ at HR9 hT9 ⊢
  clear hW hr9
  have HM9 := Hd.mk (HM5.out.frame hT9 (fun k h e => HR5.out.out (by rw [← e]; exact h)) (fun e => NEt.out.2.1 e))
  have HO9 : Hd (Out w W9_ F F4_) := ⟨⟨HO5.out.tn.then_ hT9 (fun q h => .inr (by rw [h]; exact NEt.out.2.2.2.2.2.2.2)), HO5.out.sub⟩⟩
  (try simp only [Exit.inBlock, Exit.then])
  refine bodyPost_ret (results_list (rs := [.cell 4 33, .tmp 5]) rfl (by simp) (.cell rb 33 _ (0, 0) _ rfl HR9.out Tryd.underlying33 rfl (by kernel_rfl) (.tmp .nil))) rfl ?_
  exact ⟨F4_, mi, v1, L1, mt, v2, M1, _, Y, rfl, HM9.out, F2.out, HO9.out, F3.out⟩
end Go.Proofs.YtkbbngkfncbgkaaDoor.UStepA
