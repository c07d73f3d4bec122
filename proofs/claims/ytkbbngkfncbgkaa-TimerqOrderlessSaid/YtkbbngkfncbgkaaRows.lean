/-
  No cell of these rows narrows 'for every input' (looked for: loops, veiled, ifaces, maps, wideKeys, modest, calm, conditions, laid).
  DERIVED. THE GIVEN ROWS OF THIS SEAT. 3 by the template 'for every input the law returns true; each argument reads behind the call as it read before'; 0 by the template 'total and deterministic' (their statements: YtkbbngkfncbgkaaTotals.lean).
  GIVEN WITH THE SEED: the statements are not yours to turn. If you find one false, say at which input.
  Laid BY PROGRAM, IN A SANDBOX (cutbox-rows.mjs): the forced cells as the released guide's own fill.sh prints them over the translation 2ab20026962a4b07… (all of the seat's roots in one cut). By AI agents, Wed Nov 11 2026. No macro, syntax, notation, axiom, sorry.
-/
import Derived.Test.YtkbbngkfncbgkaaChecked
import GoSem.Claim
import GoSem.ClaimJoined
import GoSem.ClaimMapViews
import Derived.JoinedTies
import Derived.KernelRfl
namespace Go.Proofs.Ytkbbngkfncbgkaa
/- THE CELL 'sum', in the pinned program and in every row, IS THE sha256 OF THE DUMP (.gsa) THAT YtkbbngkfncbgkaaProg.lean LOADS. Nothing in Lean hashes anything: it is a label: what it is worth is what the hold of that sum in a sandbox is worth. -/
noncomputable def Try.pinned : Pinned := { name := "ytkbbngkfncbgkaa", sum := "2ab20026962a4b0794947a441795171f80d0559ac1fed1ee36b061df5619d537", checked := Try.checked }
namespace Rows
def none {H : Type} : Left H := { results := [], args := [] }

/-- 'arrearslaw11.TimerqSorts': WHATEVER THE INPUT: true; the input reads as it did. -/
def timerqSortsSpec : ChangeSpec := { name := "timerqSorts", fn := fun _ => fun
  | [d1, d2] => { results := [.lit (.bool true)], args := [d1, d2] }
  | _ => none }
def timerqSortsRow : OpenClaim := { program := "ytkbbngkfncbgkaa", sum := "2ab20026962a4b0794947a441795171f80d0559ac1fed1ee36b061df5619d537", func := "arrears/arrearslaw11.TimerqSorts", spec := "timerqSorts", plainKeys := false, apart := false }
def TimerqSortsSaid : Prop := timerqSortsRow.holds Try.pinned (OpenSpec.ofChange timerqSortsSpec)

/-- ITS FALSE NEIGHBOUR: 'it returns false'. Refute it at one input. -/
def timerqSortsWrong : ChangeSpec := { name := "timerqSorts", fn := fun _ => fun
  | [d1, d2] => { results := [.lit (.bool false)], args := [d1, d2] }
  | _ => none }
def TimerqSortsWrongFalsely : Prop := timerqSortsRow.holds Try.pinned (OpenSpec.ofChange timerqSortsWrong)

/-- 'arrearslaw11.TimerqOrderless': WHATEVER THE INPUT: true; the input reads as it did. -/
def timerqOrderlessSpec : ChangeSpec := { name := "timerqOrderless", fn := fun _ => fun
  | [d1, d2] => { results := [.lit (.bool true)], args := [d1, d2] }
  | _ => none }
def timerqOrderlessRow : OpenClaim := { program := "ytkbbngkfncbgkaa", sum := "2ab20026962a4b0794947a441795171f80d0559ac1fed1ee36b061df5619d537", func := "arrears/arrearslaw11.TimerqOrderless", spec := "timerqOrderless", unfollowed := true, recurses := true, plainKeys := false, apart := false }
def TimerqOrderlessSaid : Prop := timerqOrderlessRow.holds Try.pinned (OpenSpec.ofChange timerqOrderlessSpec)

/-- ITS FALSE NEIGHBOUR: 'it returns false'. Refute it at one input. -/
def timerqOrderlessWrong : ChangeSpec := { name := "timerqOrderless", fn := fun _ => fun
  | [d1, d2] => { results := [.lit (.bool false)], args := [d1, d2] }
  | _ => none }
def TimerqOrderlessWrongFalsely : Prop := timerqOrderlessRow.holds Try.pinned (OpenSpec.ofChange timerqOrderlessWrong)

/-- 'arrearslaw11.TimerqMoveIsCancelPut': WHATEVER THE INPUT: true; the input reads as it did. -/
def timerqMoveIsCancelPutSpec : ChangeSpec := { name := "timerqMoveIsCancelPut", fn := fun _ => fun
  | [d1, d2, d3] => { results := [.lit (.bool true)], args := [d1, d2, d3] }
  | _ => none }
def timerqMoveIsCancelPutRow : OpenClaim := { program := "ytkbbngkfncbgkaa", sum := "2ab20026962a4b0794947a441795171f80d0559ac1fed1ee36b061df5619d537", func := "arrears/arrearslaw11.TimerqMoveIsCancelPut", spec := "timerqMoveIsCancelPut", unfollowed := true, recurses := true, plainKeys := false, apart := false }
def TimerqMoveIsCancelPutSaid : Prop := timerqMoveIsCancelPutRow.holds Try.pinned (OpenSpec.ofChange timerqMoveIsCancelPutSpec)

/-- ITS FALSE NEIGHBOUR: 'it returns false'. Refute it at one input. -/
def timerqMoveIsCancelPutWrong : ChangeSpec := { name := "timerqMoveIsCancelPut", fn := fun _ => fun
  | [d1, d2, d3] => { results := [.lit (.bool false)], args := [d1, d2, d3] }
  | _ => none }
def TimerqMoveIsCancelPutWrongFalsely : Prop := timerqMoveIsCancelPutRow.holds Try.pinned (OpenSpec.ofChange timerqMoveIsCancelPutWrong)

/- THE SECOND FORM. 'bulk': how many values and letters a reading holds, each counted each time it is reached (what is shared counts as often as it is met; a slice's spare places count too). A statement '..UptoSaid' is the law's where the arguments, and the package variables that the reading takes, are together of bulk at most 1048576: NARROWER than '..Said'. Prove '..Said' where nothing that the law and all that it calls make is longer than what came in: it says more and counts as full. Else prove '..UptoSaid'. A law counts once. -/
mutual
def uptoBulk {H : Type} : DataW H → Nat
  | .lit (.string bytes) => bytes.length + 1
  | .lit _ => 1
  | .nil => 1
  | .ptr d => uptoBulk d + 1
  | .slice elems spare => uptoBulkAll elems + uptoBulkAll spare + 1
  | .agg parts => uptoBulkAll parts + 1
  | .iface _ d => uptoBulk d + 1
  | .map entries => uptoBulkEntries entries + 1
  | .held _ => 1
def uptoBulkAll {H : Type} : List (DataW H) → Nat
  | [] => 0
  | d :: r => uptoBulk d + uptoBulkAll r
def uptoBulkEntries {H : Type} : List (Lit × DataW H) → Nat
  | [] => 0
  | x :: r => uptoBulkEntry x + uptoBulkEntries r
def uptoBulkEntry {H : Type} : Lit × DataW H → Nat
  | (.string bytes, d) => bytes.length + uptoBulk d + 1
  | (_, d) => uptoBulk d + 1
 end
def uptoSmall : (H : Type) → List (DataW H) → Bool := fun _ ds => decide (uptoBulkAll ds ≤ 1048576)
def OpenSpec.upto (s : _root_.Go.ChangeSpec) : _root_.Go.OpenSpec := { _root_.Go.OpenSpec.ofChange s with cond := some uptoSmall }

/-- 'arrearslaw11.TimerqSorts', WHERE WHAT IT READS IS OF BULK AT MOST 1048576: true; the input reads as it did. -/
def timerqSortsUptoRow : OpenClaim := { program := "ytkbbngkfncbgkaa", sum := "2ab20026962a4b0794947a441795171f80d0559ac1fed1ee36b061df5619d537", func := "arrears/arrearslaw11.TimerqSorts", spec := "timerqSorts", plainKeys := false, apart := false, narrowed := true }
def TimerqSortsUptoSaid : Prop := timerqSortsUptoRow.holds Try.pinned (OpenSpec.upto timerqSortsSpec)

/-- 'arrearslaw11.TimerqOrderless', WHERE WHAT IT READS IS OF BULK AT MOST 1048576: true; the input reads as it did. -/
def timerqOrderlessUptoRow : OpenClaim := { program := "ytkbbngkfncbgkaa", sum := "2ab20026962a4b0794947a441795171f80d0559ac1fed1ee36b061df5619d537", func := "arrears/arrearslaw11.TimerqOrderless", spec := "timerqOrderless", unfollowed := true, recurses := true, plainKeys := false, apart := false, narrowed := true }
def TimerqOrderlessUptoSaid : Prop := timerqOrderlessUptoRow.holds Try.pinned (OpenSpec.upto timerqOrderlessSpec)

/-- 'arrearslaw11.TimerqMoveIsCancelPut', WHERE WHAT IT READS IS OF BULK AT MOST 1048576: true; the input reads as it did. -/
def timerqMoveIsCancelPutUptoRow : OpenClaim := { program := "ytkbbngkfncbgkaa", sum := "2ab20026962a4b0794947a441795171f80d0559ac1fed1ee36b061df5619d537", func := "arrears/arrearslaw11.TimerqMoveIsCancelPut", spec := "timerqMoveIsCancelPut", unfollowed := true, recurses := true, plainKeys := false, apart := false, narrowed := true }
def TimerqMoveIsCancelPutUptoSaid : Prop := timerqMoveIsCancelPutUptoRow.holds Try.pinned (OpenSpec.upto timerqMoveIsCancelPutSpec)

end Rows
end Go.Proofs.Ytkbbngkfncbgkaa
