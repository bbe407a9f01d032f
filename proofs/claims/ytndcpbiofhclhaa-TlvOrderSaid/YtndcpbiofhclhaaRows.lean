/-
  No cell of these rows narrows 'for every input' (looked for: loops, veiled, ifaces, maps, wideKeys, modest, calm, conditions, laid).
  DERIVED. THE GIVEN ROWS OF THIS SEAT. 9 by the template 'for every input the law returns true; each argument reads behind the call as it read before'; 0 by the template 'total and deterministic' (their statements: YtndcpbiofhclhaaTotals.lean).
  GIVEN WITH THE SEED: the statements are not yours to turn. If you find one false, say at which input.
  Laid BY PROGRAM, IN A SANDBOX (cutbox-rows.mjs): the forced cells as the released guide's own fill.sh prints them over the translation 563fb8146da8d9f2… (all of the seat's roots in one cut). By AI agents, Wed Nov 11 2026. No macro, syntax, notation, axiom, sorry.
-/
import Derived.Test.YtndcpbiofhclhaaChecked
import GoSem.Claim
import GoSem.ClaimJoined
import GoSem.ClaimMapViews
import Derived.JoinedTies
import Derived.KernelRfl
namespace Go.Proofs.Ytndcpbiofhclhaa
/- THE CELL 'sum', in the pinned program and in every row, IS THE sha256 OF THE DUMP (.gsa) THAT YtndcpbiofhclhaaProg.lean LOADS. Nothing in Lean hashes anything: it is a label: what it is worth is what the hold of that sum in a sandbox is worth. -/
noncomputable def Try.pinned : Pinned := { name := "ytndcpbiofhclhaa", sum := "563fb8146da8d9f28b9bddc7aac04d1ce7dde2eb173a998c4d4d9189368fb2d6", checked := Try.checked }
namespace Rows
def none {H : Type} : Left H := { results := [], args := [] }

/-- 'wharflaw13.SnacPuts': WHATEVER THE INPUT: true; the input reads as it did. -/
def snacPutsSpec : ChangeSpec := { name := "snacPuts", fn := fun _ => fun
  | [d1, d2, d3, d4] => { results := [.lit (.bool true)], args := [d1, d2, d3, d4] }
  | _ => none }
def snacPutsRow : OpenClaim := { program := "ytndcpbiofhclhaa", sum := "563fb8146da8d9f28b9bddc7aac04d1ce7dde2eb173a998c4d4d9189368fb2d6", func := "wharf/wharflaw13.SnacPuts", spec := "snacPuts", apart := false }
def SnacPutsSaid : Prop := snacPutsRow.holds Try.pinned (OpenSpec.ofChange snacPutsSpec)

/-- ITS FALSE NEIGHBOUR: 'it returns false'. Refute it at one input. -/
def snacPutsWrong : ChangeSpec := { name := "snacPuts", fn := fun _ => fun
  | [d1, d2, d3, d4] => { results := [.lit (.bool false)], args := [d1, d2, d3, d4] }
  | _ => none }
def SnacPutsWrongFalsely : Prop := snacPutsRow.holds Try.pinned (OpenSpec.ofChange snacPutsWrong)

/-- 'wharflaw13.SnacBack': WHATEVER THE INPUT: true; the input reads as it did. -/
def snacBackSpec : ChangeSpec := { name := "snacBack", fn := fun _ => fun
  | [d1, d2] => { results := [.lit (.bool true)], args := [d1, d2] }
  | _ => none }
def snacBackRow : OpenClaim := { program := "ytndcpbiofhclhaa", sum := "563fb8146da8d9f28b9bddc7aac04d1ce7dde2eb173a998c4d4d9189368fb2d6", func := "wharf/wharflaw13.SnacBack", spec := "snacBack", apart := false }
def SnacBackSaid : Prop := snacBackRow.holds Try.pinned (OpenSpec.ofChange snacBackSpec)

/-- ITS FALSE NEIGHBOUR: 'it returns false'. Refute it at one input. -/
def snacBackWrong : ChangeSpec := { name := "snacBack", fn := fun _ => fun
  | [d1, d2] => { results := [.lit (.bool false)], args := [d1, d2] }
  | _ => none }
def SnacBackWrongFalsely : Prop := snacBackRow.holds Try.pinned (OpenSpec.ofChange snacBackWrong)

/-- 'wharflaw13.SnacApart': WHATEVER THE INPUT: true; the input reads as it did. -/
def snacApartSpec : ChangeSpec := { name := "snacApart", fn := fun _ => fun
  | [d1, d2] => { results := [.lit (.bool true)], args := [d1, d2] }
  | _ => none }
def snacApartRow : OpenClaim := { program := "ytndcpbiofhclhaa", sum := "563fb8146da8d9f28b9bddc7aac04d1ce7dde2eb173a998c4d4d9189368fb2d6", func := "wharf/wharflaw13.SnacApart", spec := "snacApart", apart := false }
def SnacApartSaid : Prop := snacApartRow.holds Try.pinned (OpenSpec.ofChange snacApartSpec)

/-- ITS FALSE NEIGHBOUR: 'it returns false'. Refute it at one input. -/
def snacApartWrong : ChangeSpec := { name := "snacApart", fn := fun _ => fun
  | [d1, d2] => { results := [.lit (.bool false)], args := [d1, d2] }
  | _ => none }
def SnacApartWrongFalsely : Prop := snacApartRow.holds Try.pinned (OpenSpec.ofChange snacApartWrong)

/-- 'wharflaw13.SnacHeads': WHATEVER THE INPUT: true; the input reads as it did. -/
def snacHeadsSpec : ChangeSpec := { name := "snacHeads", fn := fun _ => fun
  | [d1, d2, d3, d4] => { results := [.lit (.bool true)], args := [d1, d2, d3, d4] }
  | _ => none }
def snacHeadsRow : OpenClaim := { program := "ytndcpbiofhclhaa", sum := "563fb8146da8d9f28b9bddc7aac04d1ce7dde2eb173a998c4d4d9189368fb2d6", func := "wharf/wharflaw13.SnacHeads", spec := "snacHeads", apart := false }
def SnacHeadsSaid : Prop := snacHeadsRow.holds Try.pinned (OpenSpec.ofChange snacHeadsSpec)

/-- ITS FALSE NEIGHBOUR: 'it returns false'. Refute it at one input. -/
def snacHeadsWrong : ChangeSpec := { name := "snacHeads", fn := fun _ => fun
  | [d1, d2, d3, d4] => { results := [.lit (.bool false)], args := [d1, d2, d3, d4] }
  | _ => none }
def SnacHeadsWrongFalsely : Prop := snacHeadsRow.holds Try.pinned (OpenSpec.ofChange snacHeadsWrong)

/-- 'wharflaw11.TlvInts': WHATEVER THE INPUT: true; the input reads as it did. -/
def tlvIntsSpec : ChangeSpec := { name := "tlvInts", fn := fun _ => fun
  | [d1, d2, d3] => { results := [.lit (.bool true)], args := [d1, d2, d3] }
  | _ => none }
def tlvIntsRow : OpenClaim := { program := "ytndcpbiofhclhaa", sum := "563fb8146da8d9f28b9bddc7aac04d1ce7dde2eb173a998c4d4d9189368fb2d6", func := "wharf/wharflaw11.TlvInts", spec := "tlvInts", unfollowed := true, recurses := true, apart := false }
def TlvIntsSaid : Prop := tlvIntsRow.holds Try.pinned (OpenSpec.ofChange tlvIntsSpec)

/-- ITS FALSE NEIGHBOUR: 'it returns false'. Refute it at one input. -/
def tlvIntsWrong : ChangeSpec := { name := "tlvInts", fn := fun _ => fun
  | [d1, d2, d3] => { results := [.lit (.bool false)], args := [d1, d2, d3] }
  | _ => none }
def TlvIntsWrongFalsely : Prop := tlvIntsRow.holds Try.pinned (OpenSpec.ofChange tlvIntsWrong)

/-- 'wharflaw11.TlvReads': WHATEVER THE INPUT: true; the input reads as it did. -/
def tlvReadsSpec : ChangeSpec := { name := "tlvReads", fn := fun _ => fun
  | [d1, d2, d3] => { results := [.lit (.bool true)], args := [d1, d2, d3] }
  | _ => none }
def tlvReadsRow : OpenClaim := { program := "ytndcpbiofhclhaa", sum := "563fb8146da8d9f28b9bddc7aac04d1ce7dde2eb173a998c4d4d9189368fb2d6", func := "wharf/wharflaw11.TlvReads", spec := "tlvReads", unfollowed := true, recurses := true, apart := false }
def TlvReadsSaid : Prop := tlvReadsRow.holds Try.pinned (OpenSpec.ofChange tlvReadsSpec)

/-- ITS FALSE NEIGHBOUR: 'it returns false'. Refute it at one input. -/
def tlvReadsWrong : ChangeSpec := { name := "tlvReads", fn := fun _ => fun
  | [d1, d2, d3] => { results := [.lit (.bool false)], args := [d1, d2, d3] }
  | _ => none }
def TlvReadsWrongFalsely : Prop := tlvReadsRow.holds Try.pinned (OpenSpec.ofChange tlvReadsWrong)

/-- 'wharflaw11.TlvPuts': WHATEVER THE INPUT: true; the input reads as it did. -/
def tlvPutsSpec : ChangeSpec := { name := "tlvPuts", fn := fun _ => fun
  | [d1, d2] => { results := [.lit (.bool true)], args := [d1, d2] }
  | _ => none }
def tlvPutsRow : OpenClaim := { program := "ytndcpbiofhclhaa", sum := "563fb8146da8d9f28b9bddc7aac04d1ce7dde2eb173a998c4d4d9189368fb2d6", func := "wharf/wharflaw11.TlvPuts", spec := "tlvPuts", unfollowed := true, recurses := true, apart := false }
def TlvPutsSaid : Prop := tlvPutsRow.holds Try.pinned (OpenSpec.ofChange tlvPutsSpec)

/-- ITS FALSE NEIGHBOUR: 'it returns false'. Refute it at one input. -/
def tlvPutsWrong : ChangeSpec := { name := "tlvPuts", fn := fun _ => fun
  | [d1, d2] => { results := [.lit (.bool false)], args := [d1, d2] }
  | _ => none }
def TlvPutsWrongFalsely : Prop := tlvPutsRow.holds Try.pinned (OpenSpec.ofChange tlvPutsWrong)

/-- 'wharflaw11.TlvBack': WHATEVER THE INPUT: true; the input reads as it did. -/
def tlvBackSpec : ChangeSpec := { name := "tlvBack", fn := fun _ => fun
  | [d1, d2, d3, d4, d5, d6] => { results := [.lit (.bool true)], args := [d1, d2, d3, d4, d5, d6] }
  | _ => none }
def tlvBackRow : OpenClaim := { program := "ytndcpbiofhclhaa", sum := "563fb8146da8d9f28b9bddc7aac04d1ce7dde2eb173a998c4d4d9189368fb2d6", func := "wharf/wharflaw11.TlvBack", spec := "tlvBack", unfollowed := true, recurses := true, apart := false }
def TlvBackSaid : Prop := tlvBackRow.holds Try.pinned (OpenSpec.ofChange tlvBackSpec)

/-- ITS FALSE NEIGHBOUR: 'it returns false'. Refute it at one input. -/
def tlvBackWrong : ChangeSpec := { name := "tlvBack", fn := fun _ => fun
  | [d1, d2, d3, d4, d5, d6] => { results := [.lit (.bool false)], args := [d1, d2, d3, d4, d5, d6] }
  | _ => none }
def TlvBackWrongFalsely : Prop := tlvBackRow.holds Try.pinned (OpenSpec.ofChange tlvBackWrong)

/-- 'wharflaw11.TlvOrder': WHATEVER THE INPUT: true; the input reads as it did. -/
def tlvOrderSpec : ChangeSpec := { name := "tlvOrder", fn := fun _ => fun
  | [d1, d2, d3, d4, d5] => { results := [.lit (.bool true)], args := [d1, d2, d3, d4, d5] }
  | _ => none }
def tlvOrderRow : OpenClaim := { program := "ytndcpbiofhclhaa", sum := "563fb8146da8d9f28b9bddc7aac04d1ce7dde2eb173a998c4d4d9189368fb2d6", func := "wharf/wharflaw11.TlvOrder", spec := "tlvOrder", unfollowed := true, recurses := true, apart := false }
def TlvOrderSaid : Prop := tlvOrderRow.holds Try.pinned (OpenSpec.ofChange tlvOrderSpec)

/-- ITS FALSE NEIGHBOUR: 'it returns false'. Refute it at one input. -/
def tlvOrderWrong : ChangeSpec := { name := "tlvOrder", fn := fun _ => fun
  | [d1, d2, d3, d4, d5] => { results := [.lit (.bool false)], args := [d1, d2, d3, d4, d5] }
  | _ => none }
def TlvOrderWrongFalsely : Prop := tlvOrderRow.holds Try.pinned (OpenSpec.ofChange tlvOrderWrong)

/- THE SECOND FORM. 'bulk': how many values and letters a reading holds, each counted each time it is reached (what is shared counts as often as it is met; a slice's spare places count too). A statement '..UptoSaid' is the law's where the arguments, and the package variables that the reading takes, are together of bulk at most 1048576: NARROWER than '..Said'. Prove '..Said' where nothing that the law and all that it calls make is longer than what came in: it says more and counts as full. Else prove '..UptoSaid'. A law counts once. -/
mutual
def uptoBulk {H : Type} : DataW H → Nat
  | .lit (.string bytes) => bytes.length + 1
  | .lit _ => 1
  | .nil => 1
  | .ptr d => uptoBulk d + 1
  | .slice elems spare => uptoBulkAll elems + uptoBulkAll spare + 1
  | .agg parts => uptoBulkAll parts + 1
  | .iface _ d => uptoBulk d + 1
  | .map entries => uptoBulkEntries entries + 1
  | .held _ => 1
def uptoBulkAll {H : Type} : List (DataW H) → Nat
  | [] => 0
  | d :: r => uptoBulk d + uptoBulkAll r
def uptoBulkEntries {H : Type} : List (Lit × DataW H) → Nat
  | [] => 0
  | x :: r => uptoBulkEntry x + uptoBulkEntries r
def uptoBulkEntry {H : Type} : Lit × DataW H → Nat
  | (.string bytes, d) => bytes.length + uptoBulk d + 1
  | (_, d) => uptoBulk d + 1
 end
def uptoSmall : (H : Type) → List (DataW H) → Bool := fun _ ds => decide (uptoBulkAll ds ≤ 1048576)
def OpenSpec.upto (s : _root_.Go.ChangeSpec) : _root_.Go.OpenSpec := { _root_.Go.OpenSpec.ofChange s with cond := some uptoSmall }

/-- 'wharflaw13.SnacPuts', WHERE WHAT IT READS IS OF BULK AT MOST 1048576: true; the input reads as it did. -/
def snacPutsUptoRow : OpenClaim := { program := "ytndcpbiofhclhaa", sum := "563fb8146da8d9f28b9bddc7aac04d1ce7dde2eb173a998c4d4d9189368fb2d6", func := "wharf/wharflaw13.SnacPuts", spec := "snacPuts", apart := false, narrowed := true }
def SnacPutsUptoSaid : Prop := snacPutsUptoRow.holds Try.pinned (OpenSpec.upto snacPutsSpec)

/-- 'wharflaw13.SnacBack', WHERE WHAT IT READS IS OF BULK AT MOST 1048576: true; the input reads as it did. -/
def snacBackUptoRow : OpenClaim := { program := "ytndcpbiofhclhaa", sum := "563fb8146da8d9f28b9bddc7aac04d1ce7dde2eb173a998c4d4d9189368fb2d6", func := "wharf/wharflaw13.SnacBack", spec := "snacBack", apart := false, narrowed := true }
def SnacBackUptoSaid : Prop := snacBackUptoRow.holds Try.pinned (OpenSpec.upto snacBackSpec)

/-- 'wharflaw13.SnacApart', WHERE WHAT IT READS IS OF BULK AT MOST 1048576: true; the input reads as it did. -/
def snacApartUptoRow : OpenClaim := { program := "ytndcpbiofhclhaa", sum := "563fb8146da8d9f28b9bddc7aac04d1ce7dde2eb173a998c4d4d9189368fb2d6", func := "wharf/wharflaw13.SnacApart", spec := "snacApart", apart := false, narrowed := true }
def SnacApartUptoSaid : Prop := snacApartUptoRow.holds Try.pinned (OpenSpec.upto snacApartSpec)

/-- 'wharflaw13.SnacHeads', WHERE WHAT IT READS IS OF BULK AT MOST 1048576: true; the input reads as it did. -/
def snacHeadsUptoRow : OpenClaim := { program := "ytndcpbiofhclhaa", sum := "563fb8146da8d9f28b9bddc7aac04d1ce7dde2eb173a998c4d4d9189368fb2d6", func := "wharf/wharflaw13.SnacHeads", spec := "snacHeads", apart := false, narrowed := true }
def SnacHeadsUptoSaid : Prop := snacHeadsUptoRow.holds Try.pinned (OpenSpec.upto snacHeadsSpec)

/-- 'wharflaw11.TlvInts', WHERE WHAT IT READS IS OF BULK AT MOST 1048576: true; the input reads as it did. -/
def tlvIntsUptoRow : OpenClaim := { program := "ytndcpbiofhclhaa", sum := "563fb8146da8d9f28b9bddc7aac04d1ce7dde2eb173a998c4d4d9189368fb2d6", func := "wharf/wharflaw11.TlvInts", spec := "tlvInts", unfollowed := true, recurses := true, apart := false, narrowed := true }
def TlvIntsUptoSaid : Prop := tlvIntsUptoRow.holds Try.pinned (OpenSpec.upto tlvIntsSpec)

/-- 'wharflaw11.TlvReads', WHERE WHAT IT READS IS OF BULK AT MOST 1048576: true; the input reads as it did. -/
def tlvReadsUptoRow : OpenClaim := { program := "ytndcpbiofhclhaa", sum := "563fb8146da8d9f28b9bddc7aac04d1ce7dde2eb173a998c4d4d9189368fb2d6", func := "wharf/wharflaw11.TlvReads", spec := "tlvReads", unfollowed := true, recurses := true, apart := false, narrowed := true }
def TlvReadsUptoSaid : Prop := tlvReadsUptoRow.holds Try.pinned (OpenSpec.upto tlvReadsSpec)

/-- 'wharflaw11.TlvPuts', WHERE WHAT IT READS IS OF BULK AT MOST 1048576: true; the input reads as it did. -/
def tlvPutsUptoRow : OpenClaim := { program := "ytndcpbiofhclhaa", sum := "563fb8146da8d9f28b9bddc7aac04d1ce7dde2eb173a998c4d4d9189368fb2d6", func := "wharf/wharflaw11.TlvPuts", spec := "tlvPuts", unfollowed := true, recurses := true, apart := false, narrowed := true }
def TlvPutsUptoSaid : Prop := tlvPutsUptoRow.holds Try.pinned (OpenSpec.upto tlvPutsSpec)

/-- 'wharflaw11.TlvBack', WHERE WHAT IT READS IS OF BULK AT MOST 1048576: true; the input reads as it did. -/
def tlvBackUptoRow : OpenClaim := { program := "ytndcpbiofhclhaa", sum := "563fb8146da8d9f28b9bddc7aac04d1ce7dde2eb173a998c4d4d9189368fb2d6", func := "wharf/wharflaw11.TlvBack", spec := "tlvBack", unfollowed := true, recurses := true, apart := false, narrowed := true }
def TlvBackUptoSaid : Prop := tlvBackUptoRow.holds Try.pinned (OpenSpec.upto tlvBackSpec)

/-- 'wharflaw11.TlvOrder', WHERE WHAT IT READS IS OF BULK AT MOST 1048576: true; the input reads as it did. -/
def tlvOrderUptoRow : OpenClaim := { program := "ytndcpbiofhclhaa", sum := "563fb8146da8d9f28b9bddc7aac04d1ce7dde2eb173a998c4d4d9189368fb2d6", func := "wharf/wharflaw11.TlvOrder", spec := "tlvOrder", unfollowed := true, recurses := true, apart := false, narrowed := true }
def TlvOrderUptoSaid : Prop := tlvOrderUptoRow.holds Try.pinned (OpenSpec.upto tlvOrderSpec)

end Rows
end Go.Proofs.Ytndcpbiofhclhaa
