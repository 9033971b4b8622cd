/-
  No cell of these rows narrows 'for every input' (looked for: loops, veiled, ifaces, maps, wideKeys, modest, calm, conditions, laid).
  DERIVED. THE GIVEN ROWS OF THIS SEAT. 4 by the template 'for every input the law returns true; each argument reads behind the call as it read before'; 0 by the template 'total and deterministic' (their statements: YtlaaigljlhkdpaaTotals.lean).
  GIVEN WITH THE SEED: the statements are not yours to turn. If you find one false, say at which input.
  Laid BY PROGRAM, IN A SANDBOX (cutbox-rows.mjs): the forced cells as the released guide's own fill.sh prints them over the translation 8669d5d005981e59… (all of the seat's roots in one cut). By AI agents, Wed Nov 11 2026. No macro, syntax, notation, axiom, sorry.
-/
import Derived.Test.YtlaaigljlhkdpaaChecked
import GoSem.Claim
import GoSem.ClaimJoined
import GoSem.ClaimMapViews
import Derived.JoinedTies
import Derived.KernelRfl
namespace Go.Proofs.Ytlaaigljlhkdpaa
/- THE CELL 'sum', in the pinned program and in every row, IS THE sha256 OF THE DUMP (.gsa) THAT YtlaaigljlhkdpaaProg.lean LOADS. Nothing in Lean hashes anything: it is a label: what it is worth is what the hold of that sum in a sandbox is worth. -/
noncomputable def Try.pinned : Pinned := { name := "ytlaaigljlhkdpaa", sum := "8669d5d005981e59680f89bbebd6cb57bdd938568c5e9c65287c4fe3c485de84", checked := Try.checked }
namespace Rows
def none {H : Type} : Left H := { results := [], args := [] }

/-- 'frustumlaw45.FragmentsComplete': WHATEVER THE INPUT: true; the input reads as it did. -/
def fragmentsCompleteSpec : ChangeSpec := { name := "fragmentsComplete", fn := fun _ => fun
  | [d] => { results := [.lit (.bool true)], args := [d] }
  | _ => none }
def fragmentsCompleteRow : OpenClaim := { program := "ytlaaigljlhkdpaa", sum := "8669d5d005981e59680f89bbebd6cb57bdd938568c5e9c65287c4fe3c485de84", func := "frustum/frustumlaw45.FragmentsComplete", spec := "fragmentsComplete", recurses := true, apart := false }
def FragmentsCompleteSaid : Prop := fragmentsCompleteRow.holds Try.pinned (OpenSpec.ofChange fragmentsCompleteSpec)

/-- ITS FALSE NEIGHBOUR: 'it returns false'. Refute it at one input. -/
def fragmentsCompleteWrong : ChangeSpec := { name := "fragmentsComplete", fn := fun _ => fun
  | [d] => { results := [.lit (.bool false)], args := [d] }
  | _ => none }
def FragmentsCompleteWrongFalsely : Prop := fragmentsCompleteRow.holds Try.pinned (OpenSpec.ofChange fragmentsCompleteWrong)

/-- 'frustumlaw45.FragmentsSplit': WHATEVER THE INPUT: true; the input reads as it did. -/
def fragmentsSplitSpec : ChangeSpec := { name := "fragmentsSplit", fn := fun _ => fun
  | [d1, d2] => { results := [.lit (.bool true)], args := [d1, d2] }
  | _ => none }
def fragmentsSplitRow : OpenClaim := { program := "ytlaaigljlhkdpaa", sum := "8669d5d005981e59680f89bbebd6cb57bdd938568c5e9c65287c4fe3c485de84", func := "frustum/frustumlaw45.FragmentsSplit", spec := "fragmentsSplit", recurses := true, apart := false }
def FragmentsSplitSaid : Prop := fragmentsSplitRow.holds Try.pinned (OpenSpec.ofChange fragmentsSplitSpec)

/-- ITS FALSE NEIGHBOUR: 'it returns false'. Refute it at one input. -/
def fragmentsSplitWrong : ChangeSpec := { name := "fragmentsSplit", fn := fun _ => fun
  | [d1, d2] => { results := [.lit (.bool false)], args := [d1, d2] }
  | _ => none }
def FragmentsSplitWrongFalsely : Prop := fragmentsSplitRow.holds Try.pinned (OpenSpec.ofChange fragmentsSplitWrong)

/-- 'frustumlaw45.FragmentsMasks': WHATEVER THE INPUT: true; the input reads as it did. -/
def fragmentsMasksSpec : ChangeSpec := { name := "fragmentsMasks", fn := fun _ => fun
  | [d] => { results := [.lit (.bool true)], args := [d] }
  | _ => none }
def fragmentsMasksRow : OpenClaim := { program := "ytlaaigljlhkdpaa", sum := "8669d5d005981e59680f89bbebd6cb57bdd938568c5e9c65287c4fe3c485de84", func := "frustum/frustumlaw45.FragmentsMasks", spec := "fragmentsMasks", recurses := true, apart := false }
def FragmentsMasksSaid : Prop := fragmentsMasksRow.holds Try.pinned (OpenSpec.ofChange fragmentsMasksSpec)

/-- ITS FALSE NEIGHBOUR: 'it returns false'. Refute it at one input. -/
def fragmentsMasksWrong : ChangeSpec := { name := "fragmentsMasks", fn := fun _ => fun
  | [d] => { results := [.lit (.bool false)], args := [d] }
  | _ => none }
def FragmentsMasksWrongFalsely : Prop := fragmentsMasksRow.holds Try.pinned (OpenSpec.ofChange fragmentsMasksWrong)

/-- 'frustumlaw45.FragmentsColor': WHATEVER THE INPUT: true; the input reads as it did. -/
def fragmentsColorSpec : ChangeSpec := { name := "fragmentsColor", fn := fun _ => fun
  | [d1, d2] => { results := [.lit (.bool true)], args := [d1, d2] }
  | _ => none }
def fragmentsColorRow : OpenClaim := { program := "ytlaaigljlhkdpaa", sum := "8669d5d005981e59680f89bbebd6cb57bdd938568c5e9c65287c4fe3c485de84", func := "frustum/frustumlaw45.FragmentsColor", spec := "fragmentsColor", recurses := true, apart := false }
def FragmentsColorSaid : Prop := fragmentsColorRow.holds Try.pinned (OpenSpec.ofChange fragmentsColorSpec)

/-- ITS FALSE NEIGHBOUR: 'it returns false'. Refute it at one input. -/
def fragmentsColorWrong : ChangeSpec := { name := "fragmentsColor", fn := fun _ => fun
  | [d1, d2] => { results := [.lit (.bool false)], args := [d1, d2] }
  | _ => none }
def FragmentsColorWrongFalsely : Prop := fragmentsColorRow.holds Try.pinned (OpenSpec.ofChange fragmentsColorWrong)

/- THE SECOND FORM. 'bulk': how many values and letters a reading holds, each counted each time it is reached (what is shared counts as often as it is met; a slice's spare places count too). A statement '..UptoSaid' is the law's where the arguments, and the package variables that the reading takes, are together of bulk at most 1048576: NARROWER than '..Said'. Prove '..Said' where nothing that the law and all that it calls make is longer than what came in: it says more and counts as full. Else prove '..UptoSaid'. A law counts once. -/
mutual
def uptoBulk {H : Type} : DataW H → Nat
  | .lit (.string bytes) => bytes.length + 1
  | .lit _ => 1
  | .nil => 1
  | .ptr d => uptoBulk d + 1
  | .slice elems spare => uptoBulkAll elems + uptoBulkAll spare + 1
  | .agg parts => uptoBulkAll parts + 1
  | .iface _ d => uptoBulk d + 1
  | .map entries => uptoBulkEntries entries + 1
  | .held _ => 1
def uptoBulkAll {H : Type} : List (DataW H) → Nat
  | [] => 0
  | d :: r => uptoBulk d + uptoBulkAll r
def uptoBulkEntries {H : Type} : List (Lit × DataW H) → Nat
  | [] => 0
  | x :: r => uptoBulkEntry x + uptoBulkEntries r
def uptoBulkEntry {H : Type} : Lit × DataW H → Nat
  | (.string bytes, d) => bytes.length + uptoBulk d + 1
  | (_, d) => uptoBulk d + 1
 end
def uptoSmall : (H : Type) → List (DataW H) → Bool := fun _ ds => decide (uptoBulkAll ds ≤ 1048576)
def OpenSpec.upto (s : _root_.Go.ChangeSpec) : _root_.Go.OpenSpec := { _root_.Go.OpenSpec.ofChange s with cond := some uptoSmall }

/-- 'frustumlaw45.FragmentsComplete', WHERE WHAT IT READS IS OF BULK AT MOST 1048576: true; the input reads as it did. -/
def fragmentsCompleteUptoRow : OpenClaim := { program := "ytlaaigljlhkdpaa", sum := "8669d5d005981e59680f89bbebd6cb57bdd938568c5e9c65287c4fe3c485de84", func := "frustum/frustumlaw45.FragmentsComplete", spec := "fragmentsComplete", recurses := true, apart := false, narrowed := true }
def FragmentsCompleteUptoSaid : Prop := fragmentsCompleteUptoRow.holds Try.pinned (OpenSpec.upto fragmentsCompleteSpec)

/-- 'frustumlaw45.FragmentsSplit', WHERE WHAT IT READS IS OF BULK AT MOST 1048576: true; the input reads as it did. -/
def fragmentsSplitUptoRow : OpenClaim := { program := "ytlaaigljlhkdpaa", sum := "8669d5d005981e59680f89bbebd6cb57bdd938568c5e9c65287c4fe3c485de84", func := "frustum/frustumlaw45.FragmentsSplit", spec := "fragmentsSplit", recurses := true, apart := false, narrowed := true }
def FragmentsSplitUptoSaid : Prop := fragmentsSplitUptoRow.holds Try.pinned (OpenSpec.upto fragmentsSplitSpec)

/-- 'frustumlaw45.FragmentsMasks', WHERE WHAT IT READS IS OF BULK AT MOST 1048576: true; the input reads as it did. -/
def fragmentsMasksUptoRow : OpenClaim := { program := "ytlaaigljlhkdpaa", sum := "8669d5d005981e59680f89bbebd6cb57bdd938568c5e9c65287c4fe3c485de84", func := "frustum/frustumlaw45.FragmentsMasks", spec := "fragmentsMasks", recurses := true, apart := false, narrowed := true }
def FragmentsMasksUptoSaid : Prop := fragmentsMasksUptoRow.holds Try.pinned (OpenSpec.upto fragmentsMasksSpec)

/-- 'frustumlaw45.FragmentsColor', WHERE WHAT IT READS IS OF BULK AT MOST 1048576: true; the input reads as it did. -/
def fragmentsColorUptoRow : OpenClaim := { program := "ytlaaigljlhkdpaa", sum := "8669d5d005981e59680f89bbebd6cb57bdd938568c5e9c65287c4fe3c485de84", func := "frustum/frustumlaw45.FragmentsColor", spec := "fragmentsColor", recurses := true, apart := false, narrowed := true }
def FragmentsColorUptoSaid : Prop := fragmentsColorUptoRow.holds Try.pinned (OpenSpec.upto fragmentsColorSpec)

end Rows
end Go.Proofs.Ytlaaigljlhkdpaa
