/-
  No cell of these rows narrows 'for every input' (looked for: loops, veiled, ifaces, maps, wideKeys, modest, calm, conditions, laid).
  DERIVED. THE GIVEN ROWS OF THIS SEAT. 6 by the template 'for every input the law returns true; each argument reads behind the call as it read before'; 0 by the template 'total and deterministic' (their statements: YthncdeeakhilfaaTotals.lean).
  GIVEN WITH THE SEED: the statements are not yours to turn. If you find one false, say at which input.
  Laid BY PROGRAM, IN A SANDBOX (cutbox-rows.mjs): the forced cells as the released guide's own fill.sh prints them over the translation 738311f94a2daff3… (all of the seat's roots in one cut). By AI agents, Wed Nov 11 2026. No macro, syntax, notation, axiom, sorry.
-/
import Derived.Test.YthncdeeakhilfaaChecked
import GoSem.Claim
import GoSem.ClaimJoined
import GoSem.ClaimMapViews
import Derived.JoinedTies
import Derived.KernelRfl
namespace Go.Proofs.Ythncdeeakhilfaa
/- THE CELL 'sum', in the pinned program and in every row, IS THE sha256 OF THE DUMP (.gsa) THAT YthncdeeakhilfaaProg.lean LOADS. Nothing in Lean hashes anything: it is a label: what it is worth is what the hold of that sum in a sandbox is worth. -/
noncomputable def Try.pinned : Pinned := { name := "ythncdeeakhilfaa", sum := "738311f94a2daff3884b0a403d16d5e7d0fa6b7d55371b74a5dcf6fbe82bd49e", checked := Try.checked }
namespace Rows
def none {H : Type} : Left H := { results := [], args := [] }

/-- 'wharflaw12.FlapReads': WHATEVER THE INPUT: true; the input reads as it did. -/
def flapReadsSpec : ChangeSpec := { name := "flapReads", fn := fun _ => fun
  | [d] => { results := [.lit (.bool true)], args := [d] }
  | _ => none }
def flapReadsRow : OpenClaim := { program := "ythncdeeakhilfaa", sum := "738311f94a2daff3884b0a403d16d5e7d0fa6b7d55371b74a5dcf6fbe82bd49e", func := "wharf/wharflaw12.FlapReads", spec := "flapReads", apart := false }
def FlapReadsSaid : Prop := flapReadsRow.holds Try.pinned (OpenSpec.ofChange flapReadsSpec)

/-- ITS FALSE NEIGHBOUR: 'it returns false'. Refute it at one input. -/
def flapReadsWrong : ChangeSpec := { name := "flapReads", fn := fun _ => fun
  | [d] => { results := [.lit (.bool false)], args := [d] }
  | _ => none }
def FlapReadsWrongFalsely : Prop := flapReadsRow.holds Try.pinned (OpenSpec.ofChange flapReadsWrong)

/-- 'wharflaw12.FlapPuts': WHATEVER THE INPUT: true; the input reads as it did. -/
def flapPutsSpec : ChangeSpec := { name := "flapPuts", fn := fun _ => fun
  | [d1, d2] => { results := [.lit (.bool true)], args := [d1, d2] }
  | _ => none }
def flapPutsRow : OpenClaim := { program := "ythncdeeakhilfaa", sum := "738311f94a2daff3884b0a403d16d5e7d0fa6b7d55371b74a5dcf6fbe82bd49e", func := "wharf/wharflaw12.FlapPuts", spec := "flapPuts", apart := false }
def FlapPutsSaid : Prop := flapPutsRow.holds Try.pinned (OpenSpec.ofChange flapPutsSpec)

/-- ITS FALSE NEIGHBOUR: 'it returns false'. Refute it at one input. -/
def flapPutsWrong : ChangeSpec := { name := "flapPuts", fn := fun _ => fun
  | [d1, d2] => { results := [.lit (.bool false)], args := [d1, d2] }
  | _ => none }
def FlapPutsWrongFalsely : Prop := flapPutsRow.holds Try.pinned (OpenSpec.ofChange flapPutsWrong)

/-- 'wharflaw12.FlapBack': WHATEVER THE INPUT: true; the input reads as it did. -/
def flapBackSpec : ChangeSpec := { name := "flapBack", fn := fun _ => fun
  | [d1, d2, d3] => { results := [.lit (.bool true)], args := [d1, d2, d3] }
  | _ => none }
def flapBackRow : OpenClaim := { program := "ythncdeeakhilfaa", sum := "738311f94a2daff3884b0a403d16d5e7d0fa6b7d55371b74a5dcf6fbe82bd49e", func := "wharf/wharflaw12.FlapBack", spec := "flapBack", apart := false }
def FlapBackSaid : Prop := flapBackRow.holds Try.pinned (OpenSpec.ofChange flapBackSpec)

/-- ITS FALSE NEIGHBOUR: 'it returns false'. Refute it at one input. -/
def flapBackWrong : ChangeSpec := { name := "flapBack", fn := fun _ => fun
  | [d1, d2, d3] => { results := [.lit (.bool false)], args := [d1, d2, d3] }
  | _ => none }
def FlapBackWrongFalsely : Prop := flapBackRow.holds Try.pinned (OpenSpec.ofChange flapBackWrong)

/-- 'wharflaw12.FlapOrder': WHATEVER THE INPUT: true; the input reads as it did. -/
def flapOrderSpec : ChangeSpec := { name := "flapOrder", fn := fun _ => fun
  | [d1, d2, d3] => { results := [.lit (.bool true)], args := [d1, d2, d3] }
  | _ => none }
def flapOrderRow : OpenClaim := { program := "ythncdeeakhilfaa", sum := "738311f94a2daff3884b0a403d16d5e7d0fa6b7d55371b74a5dcf6fbe82bd49e", func := "wharf/wharflaw12.FlapOrder", spec := "flapOrder", apart := false }
def FlapOrderSaid : Prop := flapOrderRow.holds Try.pinned (OpenSpec.ofChange flapOrderSpec)

/-- ITS FALSE NEIGHBOUR: 'it returns false'. Refute it at one input. -/
def flapOrderWrong : ChangeSpec := { name := "flapOrder", fn := fun _ => fun
  | [d1, d2, d3] => { results := [.lit (.bool false)], args := [d1, d2, d3] }
  | _ => none }
def FlapOrderWrongFalsely : Prop := flapOrderRow.holds Try.pinned (OpenSpec.ofChange flapOrderWrong)

/-- 'wharflaw12.FlapNil': WHATEVER THE INPUT: true; the input reads as it did. -/
def flapNilSpec : ChangeSpec := { name := "flapNil", fn := fun _ => fun
  | [d1, d2] => { results := [.lit (.bool true)], args := [d1, d2] }
  | _ => none }
def flapNilRow : OpenClaim := { program := "ythncdeeakhilfaa", sum := "738311f94a2daff3884b0a403d16d5e7d0fa6b7d55371b74a5dcf6fbe82bd49e", func := "wharf/wharflaw12.FlapNil", spec := "flapNil", apart := false }
def FlapNilSaid : Prop := flapNilRow.holds Try.pinned (OpenSpec.ofChange flapNilSpec)

/-- ITS FALSE NEIGHBOUR: 'it returns false'. Refute it at one input. -/
def flapNilWrong : ChangeSpec := { name := "flapNil", fn := fun _ => fun
  | [d1, d2] => { results := [.lit (.bool false)], args := [d1, d2] }
  | _ => none }
def FlapNilWrongFalsely : Prop := flapNilRow.holds Try.pinned (OpenSpec.ofChange flapNilWrong)

/-- 'wharflaw12.FlapRight': WHATEVER THE INPUT: true; the input reads as it did. -/
def flapRightSpec : ChangeSpec := { name := "flapRight", fn := fun _ => fun
  | [d] => { results := [.lit (.bool true)], args := [d] }
  | _ => none }
def flapRightRow : OpenClaim := { program := "ythncdeeakhilfaa", sum := "738311f94a2daff3884b0a403d16d5e7d0fa6b7d55371b74a5dcf6fbe82bd49e", func := "wharf/wharflaw12.FlapRight", spec := "flapRight", apart := false }
def FlapRightSaid : Prop := flapRightRow.holds Try.pinned (OpenSpec.ofChange flapRightSpec)

/-- ITS FALSE NEIGHBOUR: 'it returns false'. Refute it at one input. -/
def flapRightWrong : ChangeSpec := { name := "flapRight", fn := fun _ => fun
  | [d] => { results := [.lit (.bool false)], args := [d] }
  | _ => none }
def FlapRightWrongFalsely : Prop := flapRightRow.holds Try.pinned (OpenSpec.ofChange flapRightWrong)

/- THE SECOND FORM. 'bulk': how many values and letters a reading holds, each counted each time it is reached (what is shared counts as often as it is met; a slice's spare places count too). A statement '..UptoSaid' is the law's where the arguments, and the package variables that the reading takes, are together of bulk at most 1048576: NARROWER than '..Said'. Prove '..Said' where nothing that the law and all that it calls make is longer than what came in: it says more and counts as full. Else prove '..UptoSaid'. A law counts once. -/
mutual
def uptoBulk {H : Type} : DataW H → Nat
  | .lit (.string bytes) => bytes.length + 1
  | .lit _ => 1
  | .nil => 1
  | .ptr d => uptoBulk d + 1
  | .slice elems spare => uptoBulkAll elems + uptoBulkAll spare + 1
  | .agg parts => uptoBulkAll parts + 1
  | .iface _ d => uptoBulk d + 1
  | .map entries => uptoBulkEntries entries + 1
  | .held _ => 1
def uptoBulkAll {H : Type} : List (DataW H) → Nat
  | [] => 0
  | d :: r => uptoBulk d + uptoBulkAll r
def uptoBulkEntries {H : Type} : List (Lit × DataW H) → Nat
  | [] => 0
  | x :: r => uptoBulkEntry x + uptoBulkEntries r
def uptoBulkEntry {H : Type} : Lit × DataW H → Nat
  | (.string bytes, d) => bytes.length + uptoBulk d + 1
  | (_, d) => uptoBulk d + 1
 end
def uptoSmall : (H : Type) → List (DataW H) → Bool := fun _ ds => decide (uptoBulkAll ds ≤ 1048576)
def OpenSpec.upto (s : _root_.Go.ChangeSpec) : _root_.Go.OpenSpec := { _root_.Go.OpenSpec.ofChange s with cond := some uptoSmall }

/-- 'wharflaw12.FlapReads', WHERE WHAT IT READS IS OF BULK AT MOST 1048576: true; the input reads as it did. -/
def flapReadsUptoRow : OpenClaim := { program := "ythncdeeakhilfaa", sum := "738311f94a2daff3884b0a403d16d5e7d0fa6b7d55371b74a5dcf6fbe82bd49e", func := "wharf/wharflaw12.FlapReads", spec := "flapReads", apart := false, narrowed := true }
def FlapReadsUptoSaid : Prop := flapReadsUptoRow.holds Try.pinned (OpenSpec.upto flapReadsSpec)

/-- 'wharflaw12.FlapPuts', WHERE WHAT IT READS IS OF BULK AT MOST 1048576: true; the input reads as it did. -/
def flapPutsUptoRow : OpenClaim := { program := "ythncdeeakhilfaa", sum := "738311f94a2daff3884b0a403d16d5e7d0fa6b7d55371b74a5dcf6fbe82bd49e", func := "wharf/wharflaw12.FlapPuts", spec := "flapPuts", apart := false, narrowed := true }
def FlapPutsUptoSaid : Prop := flapPutsUptoRow.holds Try.pinned (OpenSpec.upto flapPutsSpec)

/-- 'wharflaw12.FlapBack', WHERE WHAT IT READS IS OF BULK AT MOST 1048576: true; the input reads as it did. -/
def flapBackUptoRow : OpenClaim := { program := "ythncdeeakhilfaa", sum := "738311f94a2daff3884b0a403d16d5e7d0fa6b7d55371b74a5dcf6fbe82bd49e", func := "wharf/wharflaw12.FlapBack", spec := "flapBack", apart := false, narrowed := true }
def FlapBackUptoSaid : Prop := flapBackUptoRow.holds Try.pinned (OpenSpec.upto flapBackSpec)

/-- 'wharflaw12.FlapOrder', WHERE WHAT IT READS IS OF BULK AT MOST 1048576: true; the input reads as it did. -/
def flapOrderUptoRow : OpenClaim := { program := "ythncdeeakhilfaa", sum := "738311f94a2daff3884b0a403d16d5e7d0fa6b7d55371b74a5dcf6fbe82bd49e", func := "wharf/wharflaw12.FlapOrder", spec := "flapOrder", apart := false, narrowed := true }
def FlapOrderUptoSaid : Prop := flapOrderUptoRow.holds Try.pinned (OpenSpec.upto flapOrderSpec)

/-- 'wharflaw12.FlapNil', WHERE WHAT IT READS IS OF BULK AT MOST 1048576: true; the input reads as it did. -/
def flapNilUptoRow : OpenClaim := { program := "ythncdeeakhilfaa", sum := "738311f94a2daff3884b0a403d16d5e7d0fa6b7d55371b74a5dcf6fbe82bd49e", func := "wharf/wharflaw12.FlapNil", spec := "flapNil", apart := false, narrowed := true }
def FlapNilUptoSaid : Prop := flapNilUptoRow.holds Try.pinned (OpenSpec.upto flapNilSpec)

/-- 'wharflaw12.FlapRight', WHERE WHAT IT READS IS OF BULK AT MOST 1048576: true; the input reads as it did. -/
def flapRightUptoRow : OpenClaim := { program := "ythncdeeakhilfaa", sum := "738311f94a2daff3884b0a403d16d5e7d0fa6b7d55371b74a5dcf6fbe82bd49e", func := "wharf/wharflaw12.FlapRight", spec := "flapRight", apart := false, narrowed := true }
def FlapRightUptoSaid : Prop := flapRightUptoRow.holds Try.pinned (OpenSpec.upto flapRightSpec)

end Rows
end Go.Proofs.Ythncdeeakhilfaa
