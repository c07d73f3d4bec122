/- slices.SortFunc by timerq.order: the library's contract, laid at this program. No condition. -/
import Derived.Test.YtkbbngkfncbgkaaDoorZTQList
import Derived.Test.YtkbbngkfncbgkaaDoorZIQSortL
namespace Go.Proofs.YtkbbngkfncbgkaaDoor.TQSort
open Go.RowKit Go.Maps Go.Proofs.YtkbbngkfncbgkaaDoor.IQHeap Go.Proofs.YtkbbngkfncbgkaaDoor.TQWords Go.Proofs.YtkbbngkfncbgkaaDoor.TQOrd Go.Proofs.YtkbbngkfncbgkaaDoor.TQOrdG Go.Proofs.YtkbbngkfncbgkaaDoor.TQList Go.Sort Go.Lib Go.Shelf
set_option linter.unusedVariables false
set_option linter.unusedSimpArgs false
theorem ltOf_is : ltOf cfK = ltK := funext fun a => funext fun b => cfK_lt a b
theorem swo : SWO (ltOf cfK) where
  irrefl x := by
    rw [ltOf_is, ltK_not]
    omega
  trans x y z h1 h2 := by
    rw [ltOf_is] at *
    rw [ltK_iff] at *
    omega
  ntrans x y z h1 h2 := by
    rw [ltOf_is] at *
    rw [ltK_not] at *
    omega
theorem cmpLays (g off size : Nat) (W : World) : CmpLays Tryd.prog 57 #[] ek 3 cfK g off size W := fun m os dk _ x y =>
  (order_grow x y _).mono fun e w' ⟨h1, h2⟩ => ⟨h1, h2⟩
theorem sortOk : SortOk where
  some_ g cap d W hg hH hs := by
    have eg : ∀ args w, (callFunc 57 args).run Tryd.prog w = .ok (.enter 57 args) w := enters_of Tryd.func57 (by kernel_rfl) rfl
    have h := AnyQ.slices_SortFunc_total Tryd.sortT 3 Tryd.isAgg24 Tryd.sizeOf24 ek (fun _ => rfl) (fun x v hv => by simp [ek] at hv; rcases hv with rfl | rfl | rfl <;> rfl) cfK swo 57 #[] g 0 cap d W eg (cmpLays g 0 d.size W) hH hg hs (fun x y h1 h2 => ltK_total (by rw [← ltOf_is]; exact h1) (by rw [← ltOf_is]; exact h2))
    rw [ltOf_is] at h
    exact h
  none_ p cap W := AnyF.slices_SortFunc_none Tryd.sortT p cap _ W
end Go.Proofs.YtkbbngkfncbgkaaDoor.TQSort
