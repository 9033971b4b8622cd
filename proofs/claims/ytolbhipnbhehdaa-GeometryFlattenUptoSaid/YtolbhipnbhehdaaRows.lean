/-
  No cell of these rows narrows 'for every input' (looked for: loops, veiled, ifaces, maps, wideKeys, modest, calm, conditions, laid).
  DERIVED. THE GIVEN ROWS OF THIS SEAT. 6 by the template 'for every input the law returns true; each argument reads behind the call as it read before'; 0 by the template 'total and deterministic' (their statements: YtolbhipnbhehdaaTotals.lean).
  GIVEN WITH THE SEED: the statements are not yours to turn. If you find one false, say at which input.
  Laid BY PROGRAM, IN A SANDBOX (cutbox-rows.mjs): the forced cells as the released guide's own fill.sh prints them over the translation fb6363530defa315… (all of the seat's roots in one cut). By AI agents, Wed Nov 11 2026. No macro, syntax, notation, axiom, sorry.
-/
import Derived.Test.YtolbhipnbhehdaaChecked
import GoSem.Claim
import GoSem.ClaimJoined
import GoSem.ClaimMapViews
import Derived.JoinedTies
import Derived.KernelRfl
namespace Go.Proofs.Ytolbhipnbhehdaa
/- THE CELL 'sum', in the pinned program and in every row, IS THE sha256 OF THE DUMP (.gsa) THAT YtolbhipnbhehdaaProg.lean LOADS. Nothing in Lean hashes anything: it is a label: what it is worth is what the hold of that sum in a sandbox is worth. -/
noncomputable def Try.pinned : Pinned := { name := "ytolbhipnbhehdaa", sum := "fb6363530defa315c73efa61295bcf1cbc57e6afb967d81508a800f429d8a348", checked := Try.checked }
namespace Rows
def none {H : Type} : Left H := { results := [], args := [] }

/-- 'frustumlaw29.VertexstageVertices': WHATEVER THE INPUT: true; the input reads as it did. -/
def vertexstageVerticesSpec : ChangeSpec := { name := "vertexstageVertices", fn := fun _ => fun
  | [d1, d2, d3] => { results := [.lit (.bool true)], args := [d1, d2, d3] }
  | _ => none }
def vertexstageVerticesRow : OpenClaim := { program := "ytolbhipnbhehdaa", sum := "fb6363530defa315c73efa61295bcf1cbc57e6afb967d81508a800f429d8a348", func := "frustum/frustumlaw29.VertexstageVertices", spec := "vertexstageVertices", apart := false }
def VertexstageVerticesSaid : Prop := vertexstageVerticesRow.holds Try.pinned (OpenSpec.ofChange vertexstageVerticesSpec)

/-- ITS FALSE NEIGHBOUR: 'it returns false'. Refute it at one input. -/
def vertexstageVerticesWrong : ChangeSpec := { name := "vertexstageVertices", fn := fun _ => fun
  | [d1, d2, d3] => { results := [.lit (.bool false)], args := [d1, d2, d3] }
  | _ => none }
def VertexstageVerticesWrongFalsely : Prop := vertexstageVerticesRow.holds Try.pinned (OpenSpec.ofChange vertexstageVerticesWrong)

/-- 'frustumlaw29.VertexstageGathers': WHATEVER THE INPUT: true; the input reads as it did. -/
def vertexstageGathersSpec : ChangeSpec := { name := "vertexstageGathers", fn := fun _ => fun
  | [d1, d2] => { results := [.lit (.bool true)], args := [d1, d2] }
  | _ => none }
def vertexstageGathersRow : OpenClaim := { program := "ytolbhipnbhehdaa", sum := "fb6363530defa315c73efa61295bcf1cbc57e6afb967d81508a800f429d8a348", func := "frustum/frustumlaw29.VertexstageGathers", spec := "vertexstageGathers", apart := false }
def VertexstageGathersSaid : Prop := vertexstageGathersRow.holds Try.pinned (OpenSpec.ofChange vertexstageGathersSpec)

/-- ITS FALSE NEIGHBOUR: 'it returns false'. Refute it at one input. -/
def vertexstageGathersWrong : ChangeSpec := { name := "vertexstageGathers", fn := fun _ => fun
  | [d1, d2] => { results := [.lit (.bool false)], args := [d1, d2] }
  | _ => none }
def VertexstageGathersWrongFalsely : Prop := vertexstageGathersRow.holds Try.pinned (OpenSpec.ofChange vertexstageGathersWrong)

/-- 'frustumlaw30.GeometryStrips': WHATEVER THE INPUT: true; the input reads as it did. -/
def geometryStripsSpec : ChangeSpec := { name := "geometryStrips", fn := fun _ => fun
  | [d] => { results := [.lit (.bool true)], args := [d] }
  | _ => none }
def geometryStripsRow : OpenClaim := { program := "ytolbhipnbhehdaa", sum := "fb6363530defa315c73efa61295bcf1cbc57e6afb967d81508a800f429d8a348", func := "frustum/frustumlaw30.GeometryStrips", spec := "geometryStrips", unfollowed := true, recurses := true, apart := false }
def GeometryStripsSaid : Prop := geometryStripsRow.holds Try.pinned (OpenSpec.ofChange geometryStripsSpec)

/-- ITS FALSE NEIGHBOUR: 'it returns false'. Refute it at one input. -/
def geometryStripsWrong : ChangeSpec := { name := "geometryStrips", fn := fun _ => fun
  | [d] => { results := [.lit (.bool false)], args := [d] }
  | _ => none }
def GeometryStripsWrongFalsely : Prop := geometryStripsRow.holds Try.pinned (OpenSpec.ofChange geometryStripsWrong)

/-- 'frustumlaw30.GeometryAmplification': WHATEVER THE INPUT: true; the input reads as it did. -/
def geometryAmplificationSpec : ChangeSpec := { name := "geometryAmplification", fn := fun _ => fun
  | [d] => { results := [.lit (.bool true)], args := [d] }
  | _ => none }
def geometryAmplificationRow : OpenClaim := { program := "ytolbhipnbhehdaa", sum := "fb6363530defa315c73efa61295bcf1cbc57e6afb967d81508a800f429d8a348", func := "frustum/frustumlaw30.GeometryAmplification", spec := "geometryAmplification", unfollowed := true, recurses := true, apart := false }
def GeometryAmplificationSaid : Prop := geometryAmplificationRow.holds Try.pinned (OpenSpec.ofChange geometryAmplificationSpec)

/-- ITS FALSE NEIGHBOUR: 'it returns false'. Refute it at one input. -/
def geometryAmplificationWrong : ChangeSpec := { name := "geometryAmplification", fn := fun _ => fun
  | [d] => { results := [.lit (.bool false)], args := [d] }
  | _ => none }
def GeometryAmplificationWrongFalsely : Prop := geometryAmplificationRow.holds Try.pinned (OpenSpec.ofChange geometryAmplificationWrong)

/-- 'frustumlaw30.GeometryCounts': WHATEVER THE INPUT: true; the input reads as it did. -/
def geometryCountsSpec : ChangeSpec := { name := "geometryCounts", fn := fun _ => fun
  | [d] => { results := [.lit (.bool true)], args := [d] }
  | _ => none }
def geometryCountsRow : OpenClaim := { program := "ytolbhipnbhehdaa", sum := "fb6363530defa315c73efa61295bcf1cbc57e6afb967d81508a800f429d8a348", func := "frustum/frustumlaw30.GeometryCounts", spec := "geometryCounts", unfollowed := true, recurses := true, apart := false }
def GeometryCountsSaid : Prop := geometryCountsRow.holds Try.pinned (OpenSpec.ofChange geometryCountsSpec)

/-- ITS FALSE NEIGHBOUR: 'it returns false'. Refute it at one input. -/
def geometryCountsWrong : ChangeSpec := { name := "geometryCounts", fn := fun _ => fun
  | [d] => { results := [.lit (.bool false)], args := [d] }
  | _ => none }
def GeometryCountsWrongFalsely : Prop := geometryCountsRow.holds Try.pinned (OpenSpec.ofChange geometryCountsWrong)

/-- 'frustumlaw30.GeometryFlatten': WHATEVER THE INPUT: true; the input reads as it did. -/
def geometryFlattenSpec : ChangeSpec := { name := "geometryFlatten", fn := fun _ => fun
  | [d] => { results := [.lit (.bool true)], args := [d] }
  | _ => none }
def geometryFlattenRow : OpenClaim := { program := "ytolbhipnbhehdaa", sum := "fb6363530defa315c73efa61295bcf1cbc57e6afb967d81508a800f429d8a348", func := "frustum/frustumlaw30.GeometryFlatten", spec := "geometryFlatten", unfollowed := true, recurses := true, apart := false }
def GeometryFlattenSaid : Prop := geometryFlattenRow.holds Try.pinned (OpenSpec.ofChange geometryFlattenSpec)

/-- ITS FALSE NEIGHBOUR: 'it returns false'. Refute it at one input. -/
def geometryFlattenWrong : ChangeSpec := { name := "geometryFlatten", fn := fun _ => fun
  | [d] => { results := [.lit (.bool false)], args := [d] }
  | _ => none }
def GeometryFlattenWrongFalsely : Prop := geometryFlattenRow.holds Try.pinned (OpenSpec.ofChange geometryFlattenWrong)

/- THE SECOND FORM. 'bulk': how many values and letters a reading holds, each counted each time it is reached (what is shared counts as often as it is met; a slice's spare places count too). A statement '..UptoSaid' is the law's where the arguments, and the package variables that the reading takes, are together of bulk at most 1048576: NARROWER than '..Said'. Prove '..Said' where nothing that the law and all that it calls make is longer than what came in: it says more and counts as full. Else prove '..UptoSaid'. A law counts once. -/
mutual
def uptoBulk {H : Type} : DataW H → Nat
  | .lit (.string bytes) => bytes.length + 1
  | .lit _ => 1
  | .nil => 1
  | .ptr d => uptoBulk d + 1
  | .slice elems spare => uptoBulkAll elems + uptoBulkAll spare + 1
  | .agg parts => uptoBulkAll parts + 1
  | .iface _ d => uptoBulk d + 1
  | .map entries => uptoBulkEntries entries + 1
  | .held _ => 1
def uptoBulkAll {H : Type} : List (DataW H) → Nat
  | [] => 0
  | d :: r => uptoBulk d + uptoBulkAll r
def uptoBulkEntries {H : Type} : List (Lit × DataW H) → Nat
  | [] => 0
  | x :: r => uptoBulkEntry x + uptoBulkEntries r
def uptoBulkEntry {H : Type} : Lit × DataW H → Nat
  | (.string bytes, d) => bytes.length + uptoBulk d + 1
  | (_, d) => uptoBulk d + 1
 end
def uptoSmall : (H : Type) → List (DataW H) → Bool := fun _ ds => decide (uptoBulkAll ds ≤ 1048576)
def OpenSpec.upto (s : _root_.Go.ChangeSpec) : _root_.Go.OpenSpec := { _root_.Go.OpenSpec.ofChange s with cond := some uptoSmall }

/-- 'frustumlaw29.VertexstageVertices', WHERE WHAT IT READS IS OF BULK AT MOST 1048576: true; the input reads as it did. -/
def vertexstageVerticesUptoRow : OpenClaim := { program := "ytolbhipnbhehdaa", sum := "fb6363530defa315c73efa61295bcf1cbc57e6afb967d81508a800f429d8a348", func := "frustum/frustumlaw29.VertexstageVertices", spec := "vertexstageVertices", apart := false, narrowed := true }
def VertexstageVerticesUptoSaid : Prop := vertexstageVerticesUptoRow.holds Try.pinned (OpenSpec.upto vertexstageVerticesSpec)

/-- 'frustumlaw29.VertexstageGathers', WHERE WHAT IT READS IS OF BULK AT MOST 1048576: true; the input reads as it did. -/
def vertexstageGathersUptoRow : OpenClaim := { program := "ytolbhipnbhehdaa", sum := "fb6363530defa315c73efa61295bcf1cbc57e6afb967d81508a800f429d8a348", func := "frustum/frustumlaw29.VertexstageGathers", spec := "vertexstageGathers", apart := false, narrowed := true }
def VertexstageGathersUptoSaid : Prop := vertexstageGathersUptoRow.holds Try.pinned (OpenSpec.upto vertexstageGathersSpec)

/-- 'frustumlaw30.GeometryStrips', WHERE WHAT IT READS IS OF BULK AT MOST 1048576: true; the input reads as it did. -/
def geometryStripsUptoRow : OpenClaim := { program := "ytolbhipnbhehdaa", sum := "fb6363530defa315c73efa61295bcf1cbc57e6afb967d81508a800f429d8a348", func := "frustum/frustumlaw30.GeometryStrips", spec := "geometryStrips", unfollowed := true, recurses := true, apart := false, narrowed := true }
def GeometryStripsUptoSaid : Prop := geometryStripsUptoRow.holds Try.pinned (OpenSpec.upto geometryStripsSpec)

/-- 'frustumlaw30.GeometryAmplification', WHERE WHAT IT READS IS OF BULK AT MOST 1048576: true; the input reads as it did. -/
def geometryAmplificationUptoRow : OpenClaim := { program := "ytolbhipnbhehdaa", sum := "fb6363530defa315c73efa61295bcf1cbc57e6afb967d81508a800f429d8a348", func := "frustum/frustumlaw30.GeometryAmplification", spec := "geometryAmplification", unfollowed := true, recurses := true, apart := false, narrowed := true }
def GeometryAmplificationUptoSaid : Prop := geometryAmplificationUptoRow.holds Try.pinned (OpenSpec.upto geometryAmplificationSpec)

/-- 'frustumlaw30.GeometryCounts', WHERE WHAT IT READS IS OF BULK AT MOST 1048576: true; the input reads as it did. -/
def geometryCountsUptoRow : OpenClaim := { program := "ytolbhipnbhehdaa", sum := "fb6363530defa315c73efa61295bcf1cbc57e6afb967d81508a800f429d8a348", func := "frustum/frustumlaw30.GeometryCounts", spec := "geometryCounts", unfollowed := true, recurses := true, apart := false, narrowed := true }
def GeometryCountsUptoSaid : Prop := geometryCountsUptoRow.holds Try.pinned (OpenSpec.upto geometryCountsSpec)

/-- 'frustumlaw30.GeometryFlatten', WHERE WHAT IT READS IS OF BULK AT MOST 1048576: true; the input reads as it did. -/
def geometryFlattenUptoRow : OpenClaim := { program := "ytolbhipnbhehdaa", sum := "fb6363530defa315c73efa61295bcf1cbc57e6afb967d81508a800f429d8a348", func := "frustum/frustumlaw30.GeometryFlatten", spec := "geometryFlatten", unfollowed := true, recurses := true, apart := false, narrowed := true }
def GeometryFlattenUptoSaid : Prop := geometryFlattenUptoRow.holds Try.pinned (OpenSpec.upto geometryFlattenSpec)

end Rows
end Go.Proofs.Ytolbhipnbhehdaa
