/-
  No cell of these rows narrows 'for every input' (looked for: loops, veiled, ifaces, maps, wideKeys, modest, calm, conditions, laid).
  DERIVED. THE GIVEN ROWS OF THIS SEAT. 5 by the template 'for every input the law returns true; each argument reads behind the call as it read before'; 0 by the template 'total and deterministic' (their statements: YtaaoaikfkgbfhaaTotals.lean).
  GIVEN WITH THE SEED: the statements are not yours to turn. If you find one false, say at which input.
  Laid BY PROGRAM, IN A SANDBOX (cutbox-rows.mjs): the forced cells as the released guide's own fill.sh prints them over the translation 179e87bba343f026… (all of the seat's roots in one cut). By AI agents, Wed Nov 11 2026. No macro, syntax, notation, axiom, sorry.
-/
import Derived.Test.YtaaoaikfkgbfhaaChecked
import GoSem.Claim
import GoSem.ClaimJoined
import GoSem.ClaimMapViews
import Derived.JoinedTies
import Derived.KernelRfl
namespace Go.Proofs.Ytaaoaikfkgbfhaa
/- THE CELL 'sum', in the pinned program and in every row, IS THE sha256 OF THE DUMP (.gsa) THAT YtaaoaikfkgbfhaaProg.lean LOADS. Nothing in Lean hashes anything: it is a label: what it is worth is what the hold of that sum in a sandbox is worth. -/
noncomputable def Try.pinned : Pinned := { name := "ytaaoaikfkgbfhaa", sum := "179e87bba343f026d12ae9912fe6c6548d0b802bd30f1daad27e6615161aac75", checked := Try.checked }
namespace Rows
def none {H : Type} : Left H := { results := [], args := [] }

/-- 'wharflaw16.ShadeStatuses': WHATEVER THE INPUT: true; the input reads as it did. -/
def shadeStatusesSpec : ChangeSpec := { name := "shadeStatuses", fn := fun _ => fun
  | [d1, d2, d3] => { results := [.lit (.bool true)], args := [d1, d2, d3] }
  | _ => none }
def shadeStatusesRow : OpenClaim := { program := "ytaaoaikfkgbfhaa", sum := "179e87bba343f026d12ae9912fe6c6548d0b802bd30f1daad27e6615161aac75", func := "wharf/wharflaw16.ShadeStatuses", spec := "shadeStatuses", inPlace := ["internal/abi.NoEscape", "internal/bytealg.IndexByteString", "internal/bytealg.IndexString"], named := ["internal/bytealg.MaxLen"], apart := false }
def ShadeStatusesSaid : Prop := shadeStatusesRow.holds Try.pinned (OpenSpec.ofChange shadeStatusesSpec)

/-- ITS FALSE NEIGHBOUR: 'it returns false'. Refute it at one input. -/
def shadeStatusesWrong : ChangeSpec := { name := "shadeStatuses", fn := fun _ => fun
  | [d1, d2, d3] => { results := [.lit (.bool false)], args := [d1, d2, d3] }
  | _ => none }
def ShadeStatusesWrongFalsely : Prop := shadeStatusesRow.holds Try.pinned (OpenSpec.ofChange shadeStatusesWrong)

/-- 'wharflaw16.ShadeTexts': WHATEVER THE INPUT: true; the input reads as it did. -/
def shadeTextsSpec : ChangeSpec := { name := "shadeTexts", fn := fun _ => fun
  | [d1, d2] => { results := [.lit (.bool true)], args := [d1, d2] }
  | _ => none }
def shadeTextsRow : OpenClaim := { program := "ytaaoaikfkgbfhaa", sum := "179e87bba343f026d12ae9912fe6c6548d0b802bd30f1daad27e6615161aac75", func := "wharf/wharflaw16.ShadeTexts", spec := "shadeTexts", inPlace := ["internal/abi.NoEscape", "internal/bytealg.IndexByteString", "internal/bytealg.IndexString"], named := ["internal/bytealg.MaxLen"], apart := false }
def ShadeTextsSaid : Prop := shadeTextsRow.holds Try.pinned (OpenSpec.ofChange shadeTextsSpec)

/-- ITS FALSE NEIGHBOUR: 'it returns false'. Refute it at one input. -/
def shadeTextsWrong : ChangeSpec := { name := "shadeTexts", fn := fun _ => fun
  | [d1, d2] => { results := [.lit (.bool false)], args := [d1, d2] }
  | _ => none }
def ShadeTextsWrongFalsely : Prop := shadeTextsRow.holds Try.pinned (OpenSpec.ofChange shadeTextsWrong)

/-- 'wharflaw16.ShadeBack': WHATEVER THE INPUT: true; the input reads as it did. -/
def shadeBackSpec : ChangeSpec := { name := "shadeBack", fn := fun _ => fun
  | [d1, d2, d3] => { results := [.lit (.bool true)], args := [d1, d2, d3] }
  | _ => none }
def shadeBackRow : OpenClaim := { program := "ytaaoaikfkgbfhaa", sum := "179e87bba343f026d12ae9912fe6c6548d0b802bd30f1daad27e6615161aac75", func := "wharf/wharflaw16.ShadeBack", spec := "shadeBack", inPlace := ["internal/abi.NoEscape", "internal/bytealg.IndexByteString", "internal/bytealg.IndexString"], named := ["internal/bytealg.MaxLen"], apart := false }
def ShadeBackSaid : Prop := shadeBackRow.holds Try.pinned (OpenSpec.ofChange shadeBackSpec)

/-- ITS FALSE NEIGHBOUR: 'it returns false'. Refute it at one input. -/
def shadeBackWrong : ChangeSpec := { name := "shadeBack", fn := fun _ => fun
  | [d1, d2, d3] => { results := [.lit (.bool false)], args := [d1, d2, d3] }
  | _ => none }
def ShadeBackWrongFalsely : Prop := shadeBackRow.holds Try.pinned (OpenSpec.ofChange shadeBackWrong)

/-- 'wharflaw16.ShadeShort': WHATEVER THE INPUT: true; the input reads as it did. -/
def shadeShortSpec : ChangeSpec := { name := "shadeShort", fn := fun _ => fun
  | [d1, d2, d3] => { results := [.lit (.bool true)], args := [d1, d2, d3] }
  | _ => none }
def shadeShortRow : OpenClaim := { program := "ytaaoaikfkgbfhaa", sum := "179e87bba343f026d12ae9912fe6c6548d0b802bd30f1daad27e6615161aac75", func := "wharf/wharflaw16.ShadeShort", spec := "shadeShort", inPlace := ["internal/abi.NoEscape", "internal/bytealg.IndexByteString", "internal/bytealg.IndexString"], named := ["internal/bytealg.MaxLen"], apart := false }
def ShadeShortSaid : Prop := shadeShortRow.holds Try.pinned (OpenSpec.ofChange shadeShortSpec)

/-- ITS FALSE NEIGHBOUR: 'it returns false'. Refute it at one input. -/
def shadeShortWrong : ChangeSpec := { name := "shadeShort", fn := fun _ => fun
  | [d1, d2, d3] => { results := [.lit (.bool false)], args := [d1, d2, d3] }
  | _ => none }
def ShadeShortWrongFalsely : Prop := shadeShortRow.holds Try.pinned (OpenSpec.ofChange shadeShortWrong)

/-- 'wharflaw16.ShadeBits': WHATEVER THE INPUT: true; the input reads as it did. -/
def shadeBitsSpec : ChangeSpec := { name := "shadeBits", fn := fun _ => fun
  | [d1, d2] => { results := [.lit (.bool true)], args := [d1, d2] }
  | _ => none }
def shadeBitsRow : OpenClaim := { program := "ytaaoaikfkgbfhaa", sum := "179e87bba343f026d12ae9912fe6c6548d0b802bd30f1daad27e6615161aac75", func := "wharf/wharflaw16.ShadeBits", spec := "shadeBits", inPlace := ["internal/abi.NoEscape", "internal/bytealg.IndexByteString", "internal/bytealg.IndexString"], named := ["internal/bytealg.MaxLen"], apart := false }
def ShadeBitsSaid : Prop := shadeBitsRow.holds Try.pinned (OpenSpec.ofChange shadeBitsSpec)

/-- ITS FALSE NEIGHBOUR: 'it returns false'. Refute it at one input. -/
def shadeBitsWrong : ChangeSpec := { name := "shadeBits", fn := fun _ => fun
  | [d1, d2] => { results := [.lit (.bool false)], args := [d1, d2] }
  | _ => none }
def ShadeBitsWrongFalsely : Prop := shadeBitsRow.holds Try.pinned (OpenSpec.ofChange shadeBitsWrong)

/- THE SECOND FORM. 'bulk': how many values and letters a reading holds, each counted each time it is reached (what is shared counts as often as it is met; a slice's spare places count too). A statement '..UptoSaid' is the law's where the arguments, and the package variables that the reading takes, are together of bulk at most 1048576: NARROWER than '..Said'. Prove '..Said' where nothing that the law and all that it calls make is longer than what came in: it says more and counts as full. Else prove '..UptoSaid'. A law counts once. -/
mutual
def uptoBulk {H : Type} : DataW H → Nat
  | .lit (.string bytes) => bytes.length + 1
  | .lit _ => 1
  | .nil => 1
  | .ptr d => uptoBulk d + 1
  | .slice elems spare => uptoBulkAll elems + uptoBulkAll spare + 1
  | .agg parts => uptoBulkAll parts + 1
  | .iface _ d => uptoBulk d + 1
  | .map entries => uptoBulkEntries entries + 1
  | .held _ => 1
def uptoBulkAll {H : Type} : List (DataW H) → Nat
  | [] => 0
  | d :: r => uptoBulk d + uptoBulkAll r
def uptoBulkEntries {H : Type} : List (Lit × DataW H) → Nat
  | [] => 0
  | x :: r => uptoBulkEntry x + uptoBulkEntries r
def uptoBulkEntry {H : Type} : Lit × DataW H → Nat
  | (.string bytes, d) => bytes.length + uptoBulk d + 1
  | (_, d) => uptoBulk d + 1
 end
def uptoSmall : (H : Type) → List (DataW H) → Bool := fun _ ds => decide (uptoBulkAll ds ≤ 1048576)
def OpenSpec.upto (s : _root_.Go.ChangeSpec) : _root_.Go.OpenSpec := { _root_.Go.OpenSpec.ofChange s with cond := some uptoSmall }

/-- 'wharflaw16.ShadeStatuses', WHERE WHAT IT READS IS OF BULK AT MOST 1048576: true; the input reads as it did. -/
def shadeStatusesUptoRow : OpenClaim := { program := "ytaaoaikfkgbfhaa", sum := "179e87bba343f026d12ae9912fe6c6548d0b802bd30f1daad27e6615161aac75", func := "wharf/wharflaw16.ShadeStatuses", spec := "shadeStatuses", inPlace := ["internal/abi.NoEscape", "internal/bytealg.IndexByteString", "internal/bytealg.IndexString"], named := ["internal/bytealg.MaxLen"], apart := false, narrowed := true }
def ShadeStatusesUptoSaid : Prop := shadeStatusesUptoRow.holds Try.pinned (OpenSpec.upto shadeStatusesSpec)

/-- 'wharflaw16.ShadeTexts', WHERE WHAT IT READS IS OF BULK AT MOST 1048576: true; the input reads as it did. -/
def shadeTextsUptoRow : OpenClaim := { program := "ytaaoaikfkgbfhaa", sum := "179e87bba343f026d12ae9912fe6c6548d0b802bd30f1daad27e6615161aac75", func := "wharf/wharflaw16.ShadeTexts", spec := "shadeTexts", inPlace := ["internal/abi.NoEscape", "internal/bytealg.IndexByteString", "internal/bytealg.IndexString"], named := ["internal/bytealg.MaxLen"], apart := false, narrowed := true }
def ShadeTextsUptoSaid : Prop := shadeTextsUptoRow.holds Try.pinned (OpenSpec.upto shadeTextsSpec)

/-- 'wharflaw16.ShadeBack', WHERE WHAT IT READS IS OF BULK AT MOST 1048576: true; the input reads as it did. -/
def shadeBackUptoRow : OpenClaim := { program := "ytaaoaikfkgbfhaa", sum := "179e87bba343f026d12ae9912fe6c6548d0b802bd30f1daad27e6615161aac75", func := "wharf/wharflaw16.ShadeBack", spec := "shadeBack", inPlace := ["internal/abi.NoEscape", "internal/bytealg.IndexByteString", "internal/bytealg.IndexString"], named := ["internal/bytealg.MaxLen"], apart := false, narrowed := true }
def ShadeBackUptoSaid : Prop := shadeBackUptoRow.holds Try.pinned (OpenSpec.upto shadeBackSpec)

/-- 'wharflaw16.ShadeShort', WHERE WHAT IT READS IS OF BULK AT MOST 1048576: true; the input reads as it did. -/
def shadeShortUptoRow : OpenClaim := { program := "ytaaoaikfkgbfhaa", sum := "179e87bba343f026d12ae9912fe6c6548d0b802bd30f1daad27e6615161aac75", func := "wharf/wharflaw16.ShadeShort", spec := "shadeShort", inPlace := ["internal/abi.NoEscape", "internal/bytealg.IndexByteString", "internal/bytealg.IndexString"], named := ["internal/bytealg.MaxLen"], apart := false, narrowed := true }
def ShadeShortUptoSaid : Prop := shadeShortUptoRow.holds Try.pinned (OpenSpec.upto shadeShortSpec)

/-- 'wharflaw16.ShadeBits', WHERE WHAT IT READS IS OF BULK AT MOST 1048576: true; the input reads as it did. -/
def shadeBitsUptoRow : OpenClaim := { program := "ytaaoaikfkgbfhaa", sum := "179e87bba343f026d12ae9912fe6c6548d0b802bd30f1daad27e6615161aac75", func := "wharf/wharflaw16.ShadeBits", spec := "shadeBits", inPlace := ["internal/abi.NoEscape", "internal/bytealg.IndexByteString", "internal/bytealg.IndexString"], named := ["internal/bytealg.MaxLen"], apart := false, narrowed := true }
def ShadeBitsUptoSaid : Prop := shadeBitsUptoRow.holds Try.pinned (OpenSpec.upto shadeBitsSpec)

end Rows
end Go.Proofs.Ytaaoaikfkgbfhaa
