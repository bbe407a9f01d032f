/-
  No cell of these rows narrows 'for every input' (looked for: loops, veiled, ifaces, maps, wideKeys, modest, calm, conditions, laid).
  DERIVED. THE GIVEN ROWS OF THIS SEAT. 9 by the template 'for every input the law returns true; each argument reads behind the call as it read before'; 0 by the template 'total and deterministic' (their statements: YtaplfbnjoifggaaTotals.lean).
  GIVEN WITH THE SEED: the statements are not yours to turn. If you find one false, say at which input.
  Laid BY PROGRAM, IN A SANDBOX (cutbox-rows.mjs): the forced cells as the released guide's own fill.sh prints them over the translation ecc5f3cf8d154d18… (all of the seat's roots in one cut). By AI agents, Wed Nov 11 2026. No macro, syntax, notation, axiom, sorry.
-/
import Derived.Test.YtaplfbnjoifggaaChecked
import GoSem.Claim
import GoSem.ClaimJoined
import GoSem.ClaimMapViews
import Derived.JoinedTies
import Derived.KernelRfl
namespace Go.Proofs.Ytaplfbnjoifggaa
/- THE CELL 'sum', in the pinned program and in every row, IS THE sha256 OF THE DUMP (.gsa) THAT YtaplfbnjoifggaaProg.lean LOADS. Nothing in Lean hashes anything: it is a label: what it is worth is what the hold of that sum in a sandbox is worth. -/
noncomputable def Try.pinned : Pinned := { name := "ytaplfbnjoifggaa", sum := "ecc5f3cf8d154d18a3e564b28ea86c3dd1ac7833b5f81a0cae20cb9d5d83c358", checked := Try.checked }
namespace Rows
def none {H : Type} : Left H := { results := [], args := [] }

/-- 'wharflaw01.GlyphFirsts': WHATEVER THE INPUT: true; the input reads as it did. -/
def glyphFirstsSpec : ChangeSpec := { name := "glyphFirsts", fn := fun _ => fun
  | [d1, d2] => { results := [.lit (.bool true)], args := [d1, d2] }
  | _ => none }
def glyphFirstsRow : OpenClaim := { program := "ytaplfbnjoifggaa", sum := "ecc5f3cf8d154d18a3e564b28ea86c3dd1ac7833b5f81a0cae20cb9d5d83c358", func := "wharf/wharflaw01.GlyphFirsts", spec := "glyphFirsts", apart := false }
def GlyphFirstsSaid : Prop := glyphFirstsRow.holds Try.pinned (OpenSpec.ofChange glyphFirstsSpec)

/-- ITS FALSE NEIGHBOUR: 'it returns false'. Refute it at one input. -/
def glyphFirstsWrong : ChangeSpec := { name := "glyphFirsts", fn := fun _ => fun
  | [d1, d2] => { results := [.lit (.bool false)], args := [d1, d2] }
  | _ => none }
def GlyphFirstsWrongFalsely : Prop := glyphFirstsRow.holds Try.pinned (OpenSpec.ofChange glyphFirstsWrong)

/-- 'wharflaw01.GlyphChecks': WHATEVER THE INPUT: true; the input reads as it did. -/
def glyphChecksSpec : ChangeSpec := { name := "glyphChecks", fn := fun _ => fun
  | [d] => { results := [.lit (.bool true)], args := [d] }
  | _ => none }
def glyphChecksRow : OpenClaim := { program := "ytaplfbnjoifggaa", sum := "ecc5f3cf8d154d18a3e564b28ea86c3dd1ac7833b5f81a0cae20cb9d5d83c358", func := "wharf/wharflaw01.GlyphChecks", spec := "glyphChecks", apart := false }
def GlyphChecksSaid : Prop := glyphChecksRow.holds Try.pinned (OpenSpec.ofChange glyphChecksSpec)

/-- ITS FALSE NEIGHBOUR: 'it returns false'. Refute it at one input. -/
def glyphChecksWrong : ChangeSpec := { name := "glyphChecks", fn := fun _ => fun
  | [d] => { results := [.lit (.bool false)], args := [d] }
  | _ => none }
def GlyphChecksWrongFalsely : Prop := glyphChecksRow.holds Try.pinned (OpenSpec.ofChange glyphChecksWrong)

/-- 'wharflaw01.GlyphFolds': WHATEVER THE INPUT: true; the input reads as it did. -/
def glyphFoldsSpec : ChangeSpec := { name := "glyphFolds", fn := fun _ => fun
  | [d1, d2] => { results := [.lit (.bool true)], args := [d1, d2] }
  | _ => none }
def glyphFoldsRow : OpenClaim := { program := "ytaplfbnjoifggaa", sum := "ecc5f3cf8d154d18a3e564b28ea86c3dd1ac7833b5f81a0cae20cb9d5d83c358", func := "wharf/wharflaw01.GlyphFolds", spec := "glyphFolds", apart := false }
def GlyphFoldsSaid : Prop := glyphFoldsRow.holds Try.pinned (OpenSpec.ofChange glyphFoldsSpec)

/-- ITS FALSE NEIGHBOUR: 'it returns false'. Refute it at one input. -/
def glyphFoldsWrong : ChangeSpec := { name := "glyphFolds", fn := fun _ => fun
  | [d1, d2] => { results := [.lit (.bool false)], args := [d1, d2] }
  | _ => none }
def GlyphFoldsWrongFalsely : Prop := glyphFoldsRow.holds Try.pinned (OpenSpec.ofChange glyphFoldsWrong)

/-- 'wharflaw01.GlyphBack': WHATEVER THE INPUT: true; the input reads as it did. -/
def glyphBackSpec : ChangeSpec := { name := "glyphBack", fn := fun _ => fun
  | [d1, d2, d3] => { results := [.lit (.bool true)], args := [d1, d2, d3] }
  | _ => none }
def glyphBackRow : OpenClaim := { program := "ytaplfbnjoifggaa", sum := "ecc5f3cf8d154d18a3e564b28ea86c3dd1ac7833b5f81a0cae20cb9d5d83c358", func := "wharf/wharflaw01.GlyphBack", spec := "glyphBack", apart := false }
def GlyphBackSaid : Prop := glyphBackRow.holds Try.pinned (OpenSpec.ofChange glyphBackSpec)

/-- ITS FALSE NEIGHBOUR: 'it returns false'. Refute it at one input. -/
def glyphBackWrong : ChangeSpec := { name := "glyphBack", fn := fun _ => fun
  | [d1, d2, d3] => { results := [.lit (.bool false)], args := [d1, d2, d3] }
  | _ => none }
def GlyphBackWrongFalsely : Prop := glyphBackRow.holds Try.pinned (OpenSpec.ofChange glyphBackWrong)

/-- 'wharflaw01.GlyphWhole': WHATEVER THE INPUT: true; the input reads as it did. -/
def glyphWholeSpec : ChangeSpec := { name := "glyphWhole", fn := fun _ => fun
  | [d1, d2] => { results := [.lit (.bool true)], args := [d1, d2] }
  | _ => none }
def glyphWholeRow : OpenClaim := { program := "ytaplfbnjoifggaa", sum := "ecc5f3cf8d154d18a3e564b28ea86c3dd1ac7833b5f81a0cae20cb9d5d83c358", func := "wharf/wharflaw01.GlyphWhole", spec := "glyphWhole", apart := false }
def GlyphWholeSaid : Prop := glyphWholeRow.holds Try.pinned (OpenSpec.ofChange glyphWholeSpec)

/-- ITS FALSE NEIGHBOUR: 'it returns false'. Refute it at one input. -/
def glyphWholeWrong : ChangeSpec := { name := "glyphWhole", fn := fun _ => fun
  | [d1, d2] => { results := [.lit (.bool false)], args := [d1, d2] }
  | _ => none }
def GlyphWholeWrongFalsely : Prop := glyphWholeRow.holds Try.pinned (OpenSpec.ofChange glyphWholeWrong)

/-- 'wharflaw01.GlyphSame': WHATEVER THE INPUT: true; the input reads as it did. -/
def glyphSameSpec : ChangeSpec := { name := "glyphSame", fn := fun _ => fun
  | [d1, d2] => { results := [.lit (.bool true)], args := [d1, d2] }
  | _ => none }
def glyphSameRow : OpenClaim := { program := "ytaplfbnjoifggaa", sum := "ecc5f3cf8d154d18a3e564b28ea86c3dd1ac7833b5f81a0cae20cb9d5d83c358", func := "wharf/wharflaw01.GlyphSame", spec := "glyphSame", apart := false }
def GlyphSameSaid : Prop := glyphSameRow.holds Try.pinned (OpenSpec.ofChange glyphSameSpec)

/-- ITS FALSE NEIGHBOUR: 'it returns false'. Refute it at one input. -/
def glyphSameWrong : ChangeSpec := { name := "glyphSame", fn := fun _ => fun
  | [d1, d2] => { results := [.lit (.bool false)], args := [d1, d2] }
  | _ => none }
def GlyphSameWrongFalsely : Prop := glyphSameRow.holds Try.pinned (OpenSpec.ofChange glyphSameWrong)

/-- 'wharflaw01.GlyphHeads': WHATEVER THE INPUT: true; the input reads as it did. -/
def glyphHeadsSpec : ChangeSpec := { name := "glyphHeads", fn := fun _ => fun
  | [d1, d2] => { results := [.lit (.bool true)], args := [d1, d2] }
  | _ => none }
def glyphHeadsRow : OpenClaim := { program := "ytaplfbnjoifggaa", sum := "ecc5f3cf8d154d18a3e564b28ea86c3dd1ac7833b5f81a0cae20cb9d5d83c358", func := "wharf/wharflaw01.GlyphHeads", spec := "glyphHeads", apart := false }
def GlyphHeadsSaid : Prop := glyphHeadsRow.holds Try.pinned (OpenSpec.ofChange glyphHeadsSpec)

/-- ITS FALSE NEIGHBOUR: 'it returns false'. Refute it at one input. -/
def glyphHeadsWrong : ChangeSpec := { name := "glyphHeads", fn := fun _ => fun
  | [d1, d2] => { results := [.lit (.bool false)], args := [d1, d2] }
  | _ => none }
def GlyphHeadsWrongFalsely : Prop := glyphHeadsRow.holds Try.pinned (OpenSpec.ofChange glyphHeadsWrong)

/-- 'wharflaw01.GlyphOrder': WHATEVER THE INPUT: true; the input reads as it did. -/
def glyphOrderSpec : ChangeSpec := { name := "glyphOrder", fn := fun _ => fun
  | [d1, d2] => { results := [.lit (.bool true)], args := [d1, d2] }
  | _ => none }
def glyphOrderRow : OpenClaim := { program := "ytaplfbnjoifggaa", sum := "ecc5f3cf8d154d18a3e564b28ea86c3dd1ac7833b5f81a0cae20cb9d5d83c358", func := "wharf/wharflaw01.GlyphOrder", spec := "glyphOrder", apart := false }
def GlyphOrderSaid : Prop := glyphOrderRow.holds Try.pinned (OpenSpec.ofChange glyphOrderSpec)

/-- ITS FALSE NEIGHBOUR: 'it returns false'. Refute it at one input. -/
def glyphOrderWrong : ChangeSpec := { name := "glyphOrder", fn := fun _ => fun
  | [d1, d2] => { results := [.lit (.bool false)], args := [d1, d2] }
  | _ => none }
def GlyphOrderWrongFalsely : Prop := glyphOrderRow.holds Try.pinned (OpenSpec.ofChange glyphOrderWrong)

/-- 'wharflaw01.GlyphCuts': WHATEVER THE INPUT: true; the input reads as it did. -/
def glyphCutsSpec : ChangeSpec := { name := "glyphCuts", fn := fun _ => fun
  | [d1, d2] => { results := [.lit (.bool true)], args := [d1, d2] }
  | _ => none }
def glyphCutsRow : OpenClaim := { program := "ytaplfbnjoifggaa", sum := "ecc5f3cf8d154d18a3e564b28ea86c3dd1ac7833b5f81a0cae20cb9d5d83c358", func := "wharf/wharflaw01.GlyphCuts", spec := "glyphCuts", apart := false }
def GlyphCutsSaid : Prop := glyphCutsRow.holds Try.pinned (OpenSpec.ofChange glyphCutsSpec)

/-- ITS FALSE NEIGHBOUR: 'it returns false'. Refute it at one input. -/
def glyphCutsWrong : ChangeSpec := { name := "glyphCuts", fn := fun _ => fun
  | [d1, d2] => { results := [.lit (.bool false)], args := [d1, d2] }
  | _ => none }
def GlyphCutsWrongFalsely : Prop := glyphCutsRow.holds Try.pinned (OpenSpec.ofChange glyphCutsWrong)

/- THE SECOND FORM. 'bulk': how many values and letters a reading holds, each counted each time it is reached (what is shared counts as often as it is met; a slice's spare places count too). A statement '..UptoSaid' is the law's where the arguments, and the package variables that the reading takes, are together of bulk at most 1048576: NARROWER than '..Said'. Prove '..Said' where nothing that the law and all that it calls make is longer than what came in: it says more and counts as full. Else prove '..UptoSaid'. A law counts once. -/
mutual
def uptoBulk {H : Type} : DataW H → Nat
  | .lit (.string bytes) => bytes.length + 1
  | .lit _ => 1
  | .nil => 1
  | .ptr d => uptoBulk d + 1
  | .slice elems spare => uptoBulkAll elems + uptoBulkAll spare + 1
  | .agg parts => uptoBulkAll parts + 1
  | .iface _ d => uptoBulk d + 1
  | .map entries => uptoBulkEntries entries + 1
  | .held _ => 1
def uptoBulkAll {H : Type} : List (DataW H) → Nat
  | [] => 0
  | d :: r => uptoBulk d + uptoBulkAll r
def uptoBulkEntries {H : Type} : List (Lit × DataW H) → Nat
  | [] => 0
  | x :: r => uptoBulkEntry x + uptoBulkEntries r
def uptoBulkEntry {H : Type} : Lit × DataW H → Nat
  | (.string bytes, d) => bytes.length + uptoBulk d + 1
  | (_, d) => uptoBulk d + 1
 end
def uptoSmall : (H : Type) → List (DataW H) → Bool := fun _ ds => decide (uptoBulkAll ds ≤ 1048576)
def OpenSpec.upto (s : _root_.Go.ChangeSpec) : _root_.Go.OpenSpec := { _root_.Go.OpenSpec.ofChange s with cond := some uptoSmall }

/-- 'wharflaw01.GlyphFirsts', WHERE WHAT IT READS IS OF BULK AT MOST 1048576: true; the input reads as it did. -/
def glyphFirstsUptoRow : OpenClaim := { program := "ytaplfbnjoifggaa", sum := "ecc5f3cf8d154d18a3e564b28ea86c3dd1ac7833b5f81a0cae20cb9d5d83c358", func := "wharf/wharflaw01.GlyphFirsts", spec := "glyphFirsts", apart := false, narrowed := true }
def GlyphFirstsUptoSaid : Prop := glyphFirstsUptoRow.holds Try.pinned (OpenSpec.upto glyphFirstsSpec)

/-- 'wharflaw01.GlyphChecks', WHERE WHAT IT READS IS OF BULK AT MOST 1048576: true; the input reads as it did. -/
def glyphChecksUptoRow : OpenClaim := { program := "ytaplfbnjoifggaa", sum := "ecc5f3cf8d154d18a3e564b28ea86c3dd1ac7833b5f81a0cae20cb9d5d83c358", func := "wharf/wharflaw01.GlyphChecks", spec := "glyphChecks", apart := false, narrowed := true }
def GlyphChecksUptoSaid : Prop := glyphChecksUptoRow.holds Try.pinned (OpenSpec.upto glyphChecksSpec)

/-- 'wharflaw01.GlyphFolds', WHERE WHAT IT READS IS OF BULK AT MOST 1048576: true; the input reads as it did. -/
def glyphFoldsUptoRow : OpenClaim := { program := "ytaplfbnjoifggaa", sum := "ecc5f3cf8d154d18a3e564b28ea86c3dd1ac7833b5f81a0cae20cb9d5d83c358", func := "wharf/wharflaw01.GlyphFolds", spec := "glyphFolds", apart := false, narrowed := true }
def GlyphFoldsUptoSaid : Prop := glyphFoldsUptoRow.holds Try.pinned (OpenSpec.upto glyphFoldsSpec)

/-- 'wharflaw01.GlyphBack', WHERE WHAT IT READS IS OF BULK AT MOST 1048576: true; the input reads as it did. -/
def glyphBackUptoRow : OpenClaim := { program := "ytaplfbnjoifggaa", sum := "ecc5f3cf8d154d18a3e564b28ea86c3dd1ac7833b5f81a0cae20cb9d5d83c358", func := "wharf/wharflaw01.GlyphBack", spec := "glyphBack", apart := false, narrowed := true }
def GlyphBackUptoSaid : Prop := glyphBackUptoRow.holds Try.pinned (OpenSpec.upto glyphBackSpec)

/-- 'wharflaw01.GlyphWhole', WHERE WHAT IT READS IS OF BULK AT MOST 1048576: true; the input reads as it did. -/
def glyphWholeUptoRow : OpenClaim := { program := "ytaplfbnjoifggaa", sum := "ecc5f3cf8d154d18a3e564b28ea86c3dd1ac7833b5f81a0cae20cb9d5d83c358", func := "wharf/wharflaw01.GlyphWhole", spec := "glyphWhole", apart := false, narrowed := true }
def GlyphWholeUptoSaid : Prop := glyphWholeUptoRow.holds Try.pinned (OpenSpec.upto glyphWholeSpec)

/-- 'wharflaw01.GlyphSame', WHERE WHAT IT READS IS OF BULK AT MOST 1048576: true; the input reads as it did. -/
def glyphSameUptoRow : OpenClaim := { program := "ytaplfbnjoifggaa", sum := "ecc5f3cf8d154d18a3e564b28ea86c3dd1ac7833b5f81a0cae20cb9d5d83c358", func := "wharf/wharflaw01.GlyphSame", spec := "glyphSame", apart := false, narrowed := true }
def GlyphSameUptoSaid : Prop := glyphSameUptoRow.holds Try.pinned (OpenSpec.upto glyphSameSpec)

/-- 'wharflaw01.GlyphHeads', WHERE WHAT IT READS IS OF BULK AT MOST 1048576: true; the input reads as it did. -/
def glyphHeadsUptoRow : OpenClaim := { program := "ytaplfbnjoifggaa", sum := "ecc5f3cf8d154d18a3e564b28ea86c3dd1ac7833b5f81a0cae20cb9d5d83c358", func := "wharf/wharflaw01.GlyphHeads", spec := "glyphHeads", apart := false, narrowed := true }
def GlyphHeadsUptoSaid : Prop := glyphHeadsUptoRow.holds Try.pinned (OpenSpec.upto glyphHeadsSpec)

/-- 'wharflaw01.GlyphOrder', WHERE WHAT IT READS IS OF BULK AT MOST 1048576: true; the input reads as it did. -/
def glyphOrderUptoRow : OpenClaim := { program := "ytaplfbnjoifggaa", sum := "ecc5f3cf8d154d18a3e564b28ea86c3dd1ac7833b5f81a0cae20cb9d5d83c358", func := "wharf/wharflaw01.GlyphOrder", spec := "glyphOrder", apart := false, narrowed := true }
def GlyphOrderUptoSaid : Prop := glyphOrderUptoRow.holds Try.pinned (OpenSpec.upto glyphOrderSpec)

/-- 'wharflaw01.GlyphCuts', WHERE WHAT IT READS IS OF BULK AT MOST 1048576: true; the input reads as it did. -/
def glyphCutsUptoRow : OpenClaim := { program := "ytaplfbnjoifggaa", sum := "ecc5f3cf8d154d18a3e564b28ea86c3dd1ac7833b5f81a0cae20cb9d5d83c358", func := "wharf/wharflaw01.GlyphCuts", spec := "glyphCuts", apart := false, narrowed := true }
def GlyphCutsUptoSaid : Prop := glyphCutsUptoRow.holds Try.pinned (OpenSpec.upto glyphCutsSpec)

end Rows
end Go.Proofs.Ytaplfbnjoifggaa
