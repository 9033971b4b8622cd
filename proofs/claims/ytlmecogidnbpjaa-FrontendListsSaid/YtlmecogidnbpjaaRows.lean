/-
  No cell of these rows narrows 'for every input' (looked for: loops, veiled, ifaces, maps, wideKeys, modest, calm, conditions, laid).
  DERIVED. THE GIVEN ROWS OF THIS SEAT. 3 by the template 'for every input the law returns true; each argument reads behind the call as it read before'; 0 by the template 'total and deterministic' (their statements: YtlmecogidnbpjaaTotals.lean).
  GIVEN WITH THE SEED: the statements are not yours to turn. If you find one false, say at which input.
  Laid BY PROGRAM, IN A SANDBOX (cutbox-rows.mjs): the forced cells as the released guide's own fill.sh prints them over the translation 18f542cf609bf4fb… (all of the seat's roots in one cut). By AI agents, Wed Nov 11 2026. No macro, syntax, notation, axiom, sorry.
-/
import Derived.Test.YtlmecogidnbpjaaChecked
import GoSem.Claim
import GoSem.ClaimJoined
import GoSem.ClaimMapViews
import Derived.JoinedTies
import Derived.KernelRfl
namespace Go.Proofs.Ytlmecogidnbpjaa
/- THE CELL 'sum', in the pinned program and in every row, IS THE sha256 OF THE DUMP (.gsa) THAT YtlmecogidnbpjaaProg.lean LOADS. Nothing in Lean hashes anything: it is a label: what it is worth is what the hold of that sum in a sandbox is worth. -/
noncomputable def Try.pinned : Pinned := { name := "ytlmecogidnbpjaa", sum := "18f542cf609bf4fbfc9a40b6b4e3441f5531df743d08318fc73e05d36d239ed9", checked := Try.checked }
namespace Rows
def none {H : Type} : Left H := { results := [], args := [] }

/-- 'frustumlaw44.FrontendScreens': WHATEVER THE INPUT: true; the input reads as it did. -/
def frontendScreensSpec : ChangeSpec := { name := "frontendScreens", fn := fun _ => fun
  | [d1, d2, d3] => { results := [.lit (.bool true)], args := [d1, d2, d3] }
  | _ => none }
def frontendScreensRow : OpenClaim := { program := "ytlmecogidnbpjaa", sum := "18f542cf609bf4fbfc9a40b6b4e3441f5531df743d08318fc73e05d36d239ed9", func := "frustum/frustumlaw44.FrontendScreens", spec := "frontendScreens", unfollowed := true, recurses := true, apart := false }
def FrontendScreensSaid : Prop := frontendScreensRow.holds Try.pinned (OpenSpec.ofChange frontendScreensSpec)

/-- ITS FALSE NEIGHBOUR: 'it returns false'. Refute it at one input. -/
def frontendScreensWrong : ChangeSpec := { name := "frontendScreens", fn := fun _ => fun
  | [d1, d2, d3] => { results := [.lit (.bool false)], args := [d1, d2, d3] }
  | _ => none }
def FrontendScreensWrongFalsely : Prop := frontendScreensRow.holds Try.pinned (OpenSpec.ofChange frontendScreensWrong)

/-- 'frustumlaw44.FrontendIndices': WHATEVER THE INPUT: true; the input reads as it did. -/
def frontendIndicesSpec : ChangeSpec := { name := "frontendIndices", fn := fun _ => fun
  | [d1, d2, d3, d4] => { results := [.lit (.bool true)], args := [d1, d2, d3, d4] }
  | _ => none }
def frontendIndicesRow : OpenClaim := { program := "ytlmecogidnbpjaa", sum := "18f542cf609bf4fbfc9a40b6b4e3441f5531df743d08318fc73e05d36d239ed9", func := "frustum/frustumlaw44.FrontendIndices", spec := "frontendIndices", unfollowed := true, recurses := true, apart := false }
def FrontendIndicesSaid : Prop := frontendIndicesRow.holds Try.pinned (OpenSpec.ofChange frontendIndicesSpec)

/-- ITS FALSE NEIGHBOUR: 'it returns false'. Refute it at one input. -/
def frontendIndicesWrong : ChangeSpec := { name := "frontendIndices", fn := fun _ => fun
  | [d1, d2, d3, d4] => { results := [.lit (.bool false)], args := [d1, d2, d3, d4] }
  | _ => none }
def FrontendIndicesWrongFalsely : Prop := frontendIndicesRow.holds Try.pinned (OpenSpec.ofChange frontendIndicesWrong)

/-- 'frustumlaw44.FrontendLists': WHATEVER THE INPUT: true; the input reads as it did. -/
def frontendListsSpec : ChangeSpec := { name := "frontendLists", fn := fun _ => fun
  | [d] => { results := [.lit (.bool true)], args := [d] }
  | _ => none }
def frontendListsRow : OpenClaim := { program := "ytlmecogidnbpjaa", sum := "18f542cf609bf4fbfc9a40b6b4e3441f5531df743d08318fc73e05d36d239ed9", func := "frustum/frustumlaw44.FrontendLists", spec := "frontendLists", unfollowed := true, recurses := true, apart := false }
def FrontendListsSaid : Prop := frontendListsRow.holds Try.pinned (OpenSpec.ofChange frontendListsSpec)

/-- ITS FALSE NEIGHBOUR: 'it returns false'. Refute it at one input. -/
def frontendListsWrong : ChangeSpec := { name := "frontendLists", fn := fun _ => fun
  | [d] => { results := [.lit (.bool false)], args := [d] }
  | _ => none }
def FrontendListsWrongFalsely : Prop := frontendListsRow.holds Try.pinned (OpenSpec.ofChange frontendListsWrong)

/- THE SECOND FORM. 'bulk': how many values and letters a reading holds, each counted each time it is reached (what is shared counts as often as it is met; a slice's spare places count too). A statement '..UptoSaid' is the law's where the arguments, and the package variables that the reading takes, are together of bulk at most 1048576: NARROWER than '..Said'. Prove '..Said' where nothing that the law and all that it calls make is longer than what came in: it says more and counts as full. Else prove '..UptoSaid'. A law counts once. -/
mutual
def uptoBulk {H : Type} : DataW H → Nat
  | .lit (.string bytes) => bytes.length + 1
  | .lit _ => 1
  | .nil => 1
  | .ptr d => uptoBulk d + 1
  | .slice elems spare => uptoBulkAll elems + uptoBulkAll spare + 1
  | .agg parts => uptoBulkAll parts + 1
  | .iface _ d => uptoBulk d + 1
  | .map entries => uptoBulkEntries entries + 1
  | .held _ => 1
def uptoBulkAll {H : Type} : List (DataW H) → Nat
  | [] => 0
  | d :: r => uptoBulk d + uptoBulkAll r
def uptoBulkEntries {H : Type} : List (Lit × DataW H) → Nat
  | [] => 0
  | x :: r => uptoBulkEntry x + uptoBulkEntries r
def uptoBulkEntry {H : Type} : Lit × DataW H → Nat
  | (.string bytes, d) => bytes.length + uptoBulk d + 1
  | (_, d) => uptoBulk d + 1
 end
def uptoSmall : (H : Type) → List (DataW H) → Bool := fun _ ds => decide (uptoBulkAll ds ≤ 1048576)
def OpenSpec.upto (s : _root_.Go.ChangeSpec) : _root_.Go.OpenSpec := { _root_.Go.OpenSpec.ofChange s with cond := some uptoSmall }

/-- 'frustumlaw44.FrontendScreens', WHERE WHAT IT READS IS OF BULK AT MOST 1048576: true; the input reads as it did. -/
def frontendScreensUptoRow : OpenClaim := { program := "ytlmecogidnbpjaa", sum := "18f542cf609bf4fbfc9a40b6b4e3441f5531df743d08318fc73e05d36d239ed9", func := "frustum/frustumlaw44.FrontendScreens", spec := "frontendScreens", unfollowed := true, recurses := true, apart := false, narrowed := true }
def FrontendScreensUptoSaid : Prop := frontendScreensUptoRow.holds Try.pinned (OpenSpec.upto frontendScreensSpec)

/-- 'frustumlaw44.FrontendIndices', WHERE WHAT IT READS IS OF BULK AT MOST 1048576: true; the input reads as it did. -/
def frontendIndicesUptoRow : OpenClaim := { program := "ytlmecogidnbpjaa", sum := "18f542cf609bf4fbfc9a40b6b4e3441f5531df743d08318fc73e05d36d239ed9", func := "frustum/frustumlaw44.FrontendIndices", spec := "frontendIndices", unfollowed := true, recurses := true, apart := false, narrowed := true }
def FrontendIndicesUptoSaid : Prop := frontendIndicesUptoRow.holds Try.pinned (OpenSpec.upto frontendIndicesSpec)

/-- 'frustumlaw44.FrontendLists', WHERE WHAT IT READS IS OF BULK AT MOST 1048576: true; the input reads as it did. -/
def frontendListsUptoRow : OpenClaim := { program := "ytlmecogidnbpjaa", sum := "18f542cf609bf4fbfc9a40b6b4e3441f5531df743d08318fc73e05d36d239ed9", func := "frustum/frustumlaw44.FrontendLists", spec := "frontendLists", unfollowed := true, recurses := true, apart := false, narrowed := true }
def FrontendListsUptoSaid : Prop := frontendListsUptoRow.holds Try.pinned (OpenSpec.upto frontendListsSpec)

end Rows
end Go.Proofs.Ytlmecogidnbpjaa
