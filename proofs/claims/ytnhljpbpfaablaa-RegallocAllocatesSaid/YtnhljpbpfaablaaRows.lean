/-
  No cell of these rows narrows 'for every input' (looked for: loops, veiled, ifaces, maps, wideKeys, modest, calm, conditions, laid).
  DERIVED. THE GIVEN ROWS OF THIS SEAT. 6 by the template 'for every input the law returns true; each argument reads behind the call as it read before'; 0 by the template 'total and deterministic' (their statements: YtnhljpbpfaablaaTotals.lean).
  GIVEN WITH THE SEED: the statements are not yours to turn. If you find one false, say at which input.
  Laid BY PROGRAM, IN A SANDBOX (cutbox-rows.mjs): the forced cells as the released guide's own fill.sh prints them over the translation b22b99067cccd37c… (all of the seat's roots in one cut). By AI agents, Wed Nov 11 2026. No macro, syntax, notation, axiom, sorry.
-/
import Derived.Test.YtnhljpbpfaablaaChecked
import GoSem.Claim
import GoSem.ClaimJoined
import GoSem.ClaimMapViews
import Derived.JoinedTies
import Derived.KernelRfl
namespace Go.Proofs.Ytnhljpbpfaablaa
/- THE CELL 'sum', in the pinned program and in every row, IS THE sha256 OF THE DUMP (.gsa) THAT YtnhljpbpfaablaaProg.lean LOADS. Nothing in Lean hashes anything: it is a label: what it is worth is what the hold of that sum in a sandbox is worth. -/
noncomputable def Try.pinned : Pinned := { name := "ytnhljpbpfaablaa", sum := "b22b99067cccd37cf985396fde6ca826c22da34b5a80ad4930d1ccaceb44ea92", checked := Try.checked }
namespace Rows
def none {H : Type} : Left H := { results := [], args := [] }

/-- 'frustumlaw25.RegallocIntervals': WHATEVER THE INPUT: true; the input reads as it did. -/
def regallocIntervalsSpec : ChangeSpec := { name := "regallocIntervals", fn := fun _ => fun
  | [d] => { results := [.lit (.bool true)], args := [d] }
  | _ => none }
def regallocIntervalsRow : OpenClaim := { program := "ytnhljpbpfaablaa", sum := "b22b99067cccd37cf985396fde6ca826c22da34b5a80ad4930d1ccaceb44ea92", func := "frustum/frustumlaw25.RegallocIntervals", spec := "regallocIntervals", unfollowed := true, recurses := true, apart := false }
def RegallocIntervalsSaid : Prop := regallocIntervalsRow.holds Try.pinned (OpenSpec.ofChange regallocIntervalsSpec)

/-- ITS FALSE NEIGHBOUR: 'it returns false'. Refute it at one input. -/
def regallocIntervalsWrong : ChangeSpec := { name := "regallocIntervals", fn := fun _ => fun
  | [d] => { results := [.lit (.bool false)], args := [d] }
  | _ => none }
def RegallocIntervalsWrongFalsely : Prop := regallocIntervalsRow.holds Try.pinned (OpenSpec.ofChange regallocIntervalsWrong)

/-- 'frustumlaw25.RegallocAssigns': WHATEVER THE INPUT: true; the input reads as it did. -/
def regallocAssignsSpec : ChangeSpec := { name := "regallocAssigns", fn := fun _ => fun
  | [d] => { results := [.lit (.bool true)], args := [d] }
  | _ => none }
def regallocAssignsRow : OpenClaim := { program := "ytnhljpbpfaablaa", sum := "b22b99067cccd37cf985396fde6ca826c22da34b5a80ad4930d1ccaceb44ea92", func := "frustum/frustumlaw25.RegallocAssigns", spec := "regallocAssigns", unfollowed := true, recurses := true, apart := false }
def RegallocAssignsSaid : Prop := regallocAssignsRow.holds Try.pinned (OpenSpec.ofChange regallocAssignsSpec)

/-- ITS FALSE NEIGHBOUR: 'it returns false'. Refute it at one input. -/
def regallocAssignsWrong : ChangeSpec := { name := "regallocAssigns", fn := fun _ => fun
  | [d] => { results := [.lit (.bool false)], args := [d] }
  | _ => none }
def RegallocAssignsWrongFalsely : Prop := regallocAssignsRow.holds Try.pinned (OpenSpec.ofChange regallocAssignsWrong)

/-- 'frustumlaw25.RegallocDistinct': WHATEVER THE INPUT: true; the input reads as it did. -/
def regallocDistinctSpec : ChangeSpec := { name := "regallocDistinct", fn := fun _ => fun
  | [d] => { results := [.lit (.bool true)], args := [d] }
  | _ => none }
def regallocDistinctRow : OpenClaim := { program := "ytnhljpbpfaablaa", sum := "b22b99067cccd37cf985396fde6ca826c22da34b5a80ad4930d1ccaceb44ea92", func := "frustum/frustumlaw25.RegallocDistinct", spec := "regallocDistinct", unfollowed := true, recurses := true, apart := false }
def RegallocDistinctSaid : Prop := regallocDistinctRow.holds Try.pinned (OpenSpec.ofChange regallocDistinctSpec)

/-- ITS FALSE NEIGHBOUR: 'it returns false'. Refute it at one input. -/
def regallocDistinctWrong : ChangeSpec := { name := "regallocDistinct", fn := fun _ => fun
  | [d] => { results := [.lit (.bool false)], args := [d] }
  | _ => none }
def RegallocDistinctWrongFalsely : Prop := regallocDistinctRow.holds Try.pinned (OpenSpec.ofChange regallocDistinctWrong)

/-- 'frustumlaw25.RegallocPressure': WHATEVER THE INPUT: true; the input reads as it did. -/
def regallocPressureSpec : ChangeSpec := { name := "regallocPressure", fn := fun _ => fun
  | [d] => { results := [.lit (.bool true)], args := [d] }
  | _ => none }
def regallocPressureRow : OpenClaim := { program := "ytnhljpbpfaablaa", sum := "b22b99067cccd37cf985396fde6ca826c22da34b5a80ad4930d1ccaceb44ea92", func := "frustum/frustumlaw25.RegallocPressure", spec := "regallocPressure", unfollowed := true, recurses := true, apart := false }
def RegallocPressureSaid : Prop := regallocPressureRow.holds Try.pinned (OpenSpec.ofChange regallocPressureSpec)

/-- ITS FALSE NEIGHBOUR: 'it returns false'. Refute it at one input. -/
def regallocPressureWrong : ChangeSpec := { name := "regallocPressure", fn := fun _ => fun
  | [d] => { results := [.lit (.bool false)], args := [d] }
  | _ => none }
def RegallocPressureWrongFalsely : Prop := regallocPressureRow.holds Try.pinned (OpenSpec.ofChange regallocPressureWrong)

/-- 'frustumlaw25.RegallocRenumbers': WHATEVER THE INPUT: true; the input reads as it did. -/
def regallocRenumbersSpec : ChangeSpec := { name := "regallocRenumbers", fn := fun _ => fun
  | [d1, d2, d3] => { results := [.lit (.bool true)], args := [d1, d2, d3] }
  | _ => none }
def regallocRenumbersRow : OpenClaim := { program := "ytnhljpbpfaablaa", sum := "b22b99067cccd37cf985396fde6ca826c22da34b5a80ad4930d1ccaceb44ea92", func := "frustum/frustumlaw25.RegallocRenumbers", spec := "regallocRenumbers", unfollowed := true, recurses := true, apart := false }
def RegallocRenumbersSaid : Prop := regallocRenumbersRow.holds Try.pinned (OpenSpec.ofChange regallocRenumbersSpec)

/-- ITS FALSE NEIGHBOUR: 'it returns false'. Refute it at one input. -/
def regallocRenumbersWrong : ChangeSpec := { name := "regallocRenumbers", fn := fun _ => fun
  | [d1, d2, d3] => { results := [.lit (.bool false)], args := [d1, d2, d3] }
  | _ => none }
def RegallocRenumbersWrongFalsely : Prop := regallocRenumbersRow.holds Try.pinned (OpenSpec.ofChange regallocRenumbersWrong)

/-- 'frustumlaw25.RegallocAllocates': WHATEVER THE INPUT: true; the input reads as it did. -/
def regallocAllocatesSpec : ChangeSpec := { name := "regallocAllocates", fn := fun _ => fun
  | [d1, d2] => { results := [.lit (.bool true)], args := [d1, d2] }
  | _ => none }
def regallocAllocatesRow : OpenClaim := { program := "ytnhljpbpfaablaa", sum := "b22b99067cccd37cf985396fde6ca826c22da34b5a80ad4930d1ccaceb44ea92", func := "frustum/frustumlaw25.RegallocAllocates", spec := "regallocAllocates", unfollowed := true, recurses := true, apart := false }
def RegallocAllocatesSaid : Prop := regallocAllocatesRow.holds Try.pinned (OpenSpec.ofChange regallocAllocatesSpec)

/-- ITS FALSE NEIGHBOUR: 'it returns false'. Refute it at one input. -/
def regallocAllocatesWrong : ChangeSpec := { name := "regallocAllocates", fn := fun _ => fun
  | [d1, d2] => { results := [.lit (.bool false)], args := [d1, d2] }
  | _ => none }
def RegallocAllocatesWrongFalsely : Prop := regallocAllocatesRow.holds Try.pinned (OpenSpec.ofChange regallocAllocatesWrong)

/- THE SECOND FORM. 'bulk': how many values and letters a reading holds, each counted each time it is reached (what is shared counts as often as it is met; a slice's spare places count too). A statement '..UptoSaid' is the law's where the arguments, and the package variables that the reading takes, are together of bulk at most 1048576: NARROWER than '..Said'. Prove '..Said' where nothing that the law and all that it calls make is longer than what came in: it says more and counts as full. Else prove '..UptoSaid'. A law counts once. -/
mutual
def uptoBulk {H : Type} : DataW H → Nat
  | .lit (.string bytes) => bytes.length + 1
  | .lit _ => 1
  | .nil => 1
  | .ptr d => uptoBulk d + 1
  | .slice elems spare => uptoBulkAll elems + uptoBulkAll spare + 1
  | .agg parts => uptoBulkAll parts + 1
  | .iface _ d => uptoBulk d + 1
  | .map entries => uptoBulkEntries entries + 1
  | .held _ => 1
def uptoBulkAll {H : Type} : List (DataW H) → Nat
  | [] => 0
  | d :: r => uptoBulk d + uptoBulkAll r
def uptoBulkEntries {H : Type} : List (Lit × DataW H) → Nat
  | [] => 0
  | x :: r => uptoBulkEntry x + uptoBulkEntries r
def uptoBulkEntry {H : Type} : Lit × DataW H → Nat
  | (.string bytes, d) => bytes.length + uptoBulk d + 1
  | (_, d) => uptoBulk d + 1
 end
def uptoSmall : (H : Type) → List (DataW H) → Bool := fun _ ds => decide (uptoBulkAll ds ≤ 1048576)
def OpenSpec.upto (s : _root_.Go.ChangeSpec) : _root_.Go.OpenSpec := { _root_.Go.OpenSpec.ofChange s with cond := some uptoSmall }

/-- 'frustumlaw25.RegallocIntervals', WHERE WHAT IT READS IS OF BULK AT MOST 1048576: true; the input reads as it did. -/
def regallocIntervalsUptoRow : OpenClaim := { program := "ytnhljpbpfaablaa", sum := "b22b99067cccd37cf985396fde6ca826c22da34b5a80ad4930d1ccaceb44ea92", func := "frustum/frustumlaw25.RegallocIntervals", spec := "regallocIntervals", unfollowed := true, recurses := true, apart := false, narrowed := true }
def RegallocIntervalsUptoSaid : Prop := regallocIntervalsUptoRow.holds Try.pinned (OpenSpec.upto regallocIntervalsSpec)

/-- 'frustumlaw25.RegallocAssigns', WHERE WHAT IT READS IS OF BULK AT MOST 1048576: true; the input reads as it did. -/
def regallocAssignsUptoRow : OpenClaim := { program := "ytnhljpbpfaablaa", sum := "b22b99067cccd37cf985396fde6ca826c22da34b5a80ad4930d1ccaceb44ea92", func := "frustum/frustumlaw25.RegallocAssigns", spec := "regallocAssigns", unfollowed := true, recurses := true, apart := false, narrowed := true }
def RegallocAssignsUptoSaid : Prop := regallocAssignsUptoRow.holds Try.pinned (OpenSpec.upto regallocAssignsSpec)

/-- 'frustumlaw25.RegallocDistinct', WHERE WHAT IT READS IS OF BULK AT MOST 1048576: true; the input reads as it did. -/
def regallocDistinctUptoRow : OpenClaim := { program := "ytnhljpbpfaablaa", sum := "b22b99067cccd37cf985396fde6ca826c22da34b5a80ad4930d1ccaceb44ea92", func := "frustum/frustumlaw25.RegallocDistinct", spec := "regallocDistinct", unfollowed := true, recurses := true, apart := false, narrowed := true }
def RegallocDistinctUptoSaid : Prop := regallocDistinctUptoRow.holds Try.pinned (OpenSpec.upto regallocDistinctSpec)

/-- 'frustumlaw25.RegallocPressure', WHERE WHAT IT READS IS OF BULK AT MOST 1048576: true; the input reads as it did. -/
def regallocPressureUptoRow : OpenClaim := { program := "ytnhljpbpfaablaa", sum := "b22b99067cccd37cf985396fde6ca826c22da34b5a80ad4930d1ccaceb44ea92", func := "frustum/frustumlaw25.RegallocPressure", spec := "regallocPressure", unfollowed := true, recurses := true, apart := false, narrowed := true }
def RegallocPressureUptoSaid : Prop := regallocPressureUptoRow.holds Try.pinned (OpenSpec.upto regallocPressureSpec)

/-- 'frustumlaw25.RegallocRenumbers', WHERE WHAT IT READS IS OF BULK AT MOST 1048576: true; the input reads as it did. -/
def regallocRenumbersUptoRow : OpenClaim := { program := "ytnhljpbpfaablaa", sum := "b22b99067cccd37cf985396fde6ca826c22da34b5a80ad4930d1ccaceb44ea92", func := "frustum/frustumlaw25.RegallocRenumbers", spec := "regallocRenumbers", unfollowed := true, recurses := true, apart := false, narrowed := true }
def RegallocRenumbersUptoSaid : Prop := regallocRenumbersUptoRow.holds Try.pinned (OpenSpec.upto regallocRenumbersSpec)

/-- 'frustumlaw25.RegallocAllocates', WHERE WHAT IT READS IS OF BULK AT MOST 1048576: true; the input reads as it did. -/
def regallocAllocatesUptoRow : OpenClaim := { program := "ytnhljpbpfaablaa", sum := "b22b99067cccd37cf985396fde6ca826c22da34b5a80ad4930d1ccaceb44ea92", func := "frustum/frustumlaw25.RegallocAllocates", spec := "regallocAllocates", unfollowed := true, recurses := true, apart := false, narrowed := true }
def RegallocAllocatesUptoSaid : Prop := regallocAllocatesUptoRow.holds Try.pinned (OpenSpec.upto regallocAllocatesSpec)

end Rows
end Go.Proofs.Ytnhljpbpfaablaa
