/-
  No cell of these rows narrows 'for every input' (looked for: loops, veiled, ifaces, maps, wideKeys, modest, calm, conditions, laid).
  DERIVED. THE GIVEN ROWS OF THIS SEAT. 6 by the template 'for every input the law returns true; each argument reads behind the call as it read before'; 0 by the template 'total and deterministic' (their statements: YtbeclnffcapfpaaTotals.lean).
  GIVEN WITH THE SEED: the statements are not yours to turn. If you find one false, say at which input.
  Laid BY PROGRAM, IN A SANDBOX (cutbox-rows.mjs): the forced cells as the released guide's own fill.sh prints them over the translation ef0958ab158ec429… (all of the seat's roots in one cut). By AI agents, Wed Nov 11 2026. No macro, syntax, notation, axiom, sorry.
-/
import Derived.Test.YtbeclnffcapfpaaChecked
import GoSem.Claim
import GoSem.ClaimJoined
import GoSem.ClaimMapViews
import Derived.JoinedTies
import Derived.KernelRfl
namespace Go.Proofs.Ytbeclnffcapfpaa
/- THE CELL 'sum', in the pinned program and in every row, IS THE sha256 OF THE DUMP (.gsa) THAT YtbeclnffcapfpaaProg.lean LOADS. Nothing in Lean hashes anything: it is a label: what it is worth is what the hold of that sum in a sandbox is worth. -/
noncomputable def Try.pinned : Pinned := { name := "ytbeclnffcapfpaa", sum := "ef0958ab158ec429689306591d35d92e6b20340c1f8d64d9a40deab13b289948", checked := Try.checked }
namespace Rows
def none {H : Type} : Left H := { results := [], args := [] }

/-- 'wharflaw19.RateTells': WHATEVER THE INPUT: true; the input reads as it did. -/
def rateTellsSpec : ChangeSpec := { name := "rateTells", fn := fun _ => fun
  | [d1, d2] => { results := [.lit (.bool true)], args := [d1, d2] }
  | _ => none }
def rateTellsRow : OpenClaim := { program := "ytbeclnffcapfpaa", sum := "ef0958ab158ec429689306591d35d92e6b20340c1f8d64d9a40deab13b289948", func := "wharf/wharflaw19.RateTells", spec := "rateTells", unfollowed := true, recurses := true, apart := false }
def RateTellsSaid : Prop := rateTellsRow.holds Try.pinned (OpenSpec.ofChange rateTellsSpec)

/-- ITS FALSE NEIGHBOUR: 'it returns false'. Refute it at one input. -/
def rateTellsWrong : ChangeSpec := { name := "rateTells", fn := fun _ => fun
  | [d1, d2] => { results := [.lit (.bool false)], args := [d1, d2] }
  | _ => none }
def RateTellsWrongFalsely : Prop := rateTellsRow.holds Try.pinned (OpenSpec.ofChange rateTellsWrong)

/-- 'wharflaw19.RateRuns': WHATEVER THE INPUT: true; the input reads as it did. -/
def rateRunsSpec : ChangeSpec := { name := "rateRuns", fn := fun _ => fun
  | [d1, d2] => { results := [.lit (.bool true)], args := [d1, d2] }
  | _ => none }
def rateRunsRow : OpenClaim := { program := "ytbeclnffcapfpaa", sum := "ef0958ab158ec429689306591d35d92e6b20340c1f8d64d9a40deab13b289948", func := "wharf/wharflaw19.RateRuns", spec := "rateRuns", unfollowed := true, recurses := true, apart := false }
def RateRunsSaid : Prop := rateRunsRow.holds Try.pinned (OpenSpec.ofChange rateRunsSpec)

/-- ITS FALSE NEIGHBOUR: 'it returns false'. Refute it at one input. -/
def rateRunsWrong : ChangeSpec := { name := "rateRuns", fn := fun _ => fun
  | [d1, d2] => { results := [.lit (.bool false)], args := [d1, d2] }
  | _ => none }
def RateRunsWrongFalsely : Prop := rateRunsRow.holds Try.pinned (OpenSpec.ofChange rateRunsWrong)

/-- 'wharflaw19.RateNever': WHATEVER THE INPUT: true; the input reads as it did. -/
def rateNeverSpec : ChangeSpec := { name := "rateNever", fn := fun _ => fun
  | [d1, d2] => { results := [.lit (.bool true)], args := [d1, d2] }
  | _ => none }
def rateNeverRow : OpenClaim := { program := "ytbeclnffcapfpaa", sum := "ef0958ab158ec429689306591d35d92e6b20340c1f8d64d9a40deab13b289948", func := "wharf/wharflaw19.RateNever", spec := "rateNever", unfollowed := true, recurses := true, apart := false }
def RateNeverSaid : Prop := rateNeverRow.holds Try.pinned (OpenSpec.ofChange rateNeverSpec)

/-- ITS FALSE NEIGHBOUR: 'it returns false'. Refute it at one input. -/
def rateNeverWrong : ChangeSpec := { name := "rateNever", fn := fun _ => fun
  | [d1, d2] => { results := [.lit (.bool false)], args := [d1, d2] }
  | _ => none }
def RateNeverWrongFalsely : Prop := rateNeverRow.holds Try.pinned (OpenSpec.ofChange rateNeverWrong)

/-- 'wharflaw19.RateWaits': WHATEVER THE INPUT: true; the input reads as it did. -/
def rateWaitsSpec : ChangeSpec := { name := "rateWaits", fn := fun _ => fun
  | [d1, d2, d3] => { results := [.lit (.bool true)], args := [d1, d2, d3] }
  | _ => none }
def rateWaitsRow : OpenClaim := { program := "ytbeclnffcapfpaa", sum := "ef0958ab158ec429689306591d35d92e6b20340c1f8d64d9a40deab13b289948", func := "wharf/wharflaw19.RateWaits", spec := "rateWaits", unfollowed := true, recurses := true, apart := false }
def RateWaitsSaid : Prop := rateWaitsRow.holds Try.pinned (OpenSpec.ofChange rateWaitsSpec)

/-- ITS FALSE NEIGHBOUR: 'it returns false'. Refute it at one input. -/
def rateWaitsWrong : ChangeSpec := { name := "rateWaits", fn := fun _ => fun
  | [d1, d2, d3] => { results := [.lit (.bool false)], args := [d1, d2, d3] }
  | _ => none }
def RateWaitsWrongFalsely : Prop := rateWaitsRow.holds Try.pinned (OpenSpec.ofChange rateWaitsWrong)

/-- 'wharflaw19.RateOrder': WHATEVER THE INPUT: true; the input reads as it did. -/
def rateOrderSpec : ChangeSpec := { name := "rateOrder", fn := fun _ => fun
  | [d1, d2, d3] => { results := [.lit (.bool true)], args := [d1, d2, d3] }
  | _ => none }
def rateOrderRow : OpenClaim := { program := "ytbeclnffcapfpaa", sum := "ef0958ab158ec429689306591d35d92e6b20340c1f8d64d9a40deab13b289948", func := "wharf/wharflaw19.RateOrder", spec := "rateOrder", unfollowed := true, recurses := true, apart := false }
def RateOrderSaid : Prop := rateOrderRow.holds Try.pinned (OpenSpec.ofChange rateOrderSpec)

/-- ITS FALSE NEIGHBOUR: 'it returns false'. Refute it at one input. -/
def rateOrderWrong : ChangeSpec := { name := "rateOrder", fn := fun _ => fun
  | [d1, d2, d3] => { results := [.lit (.bool false)], args := [d1, d2, d3] }
  | _ => none }
def RateOrderWrongFalsely : Prop := rateOrderRow.holds Try.pinned (OpenSpec.ofChange rateOrderWrong)

/-- 'wharflaw19.RateFull': WHATEVER THE INPUT: true; the input reads as it did. -/
def rateFullSpec : ChangeSpec := { name := "rateFull", fn := fun _ => fun
  | [d1, d2, d3] => { results := [.lit (.bool true)], args := [d1, d2, d3] }
  | _ => none }
def rateFullRow : OpenClaim := { program := "ytbeclnffcapfpaa", sum := "ef0958ab158ec429689306591d35d92e6b20340c1f8d64d9a40deab13b289948", func := "wharf/wharflaw19.RateFull", spec := "rateFull", unfollowed := true, recurses := true, apart := false }
def RateFullSaid : Prop := rateFullRow.holds Try.pinned (OpenSpec.ofChange rateFullSpec)

/-- ITS FALSE NEIGHBOUR: 'it returns false'. Refute it at one input. -/
def rateFullWrong : ChangeSpec := { name := "rateFull", fn := fun _ => fun
  | [d1, d2, d3] => { results := [.lit (.bool false)], args := [d1, d2, d3] }
  | _ => none }
def RateFullWrongFalsely : Prop := rateFullRow.holds Try.pinned (OpenSpec.ofChange rateFullWrong)

/- THE SECOND FORM. 'bulk': how many values and letters a reading holds, each counted each time it is reached (what is shared counts as often as it is met; a slice's spare places count too). A statement '..UptoSaid' is the law's where the arguments, and the package variables that the reading takes, are together of bulk at most 1048576: NARROWER than '..Said'. Prove '..Said' where nothing that the law and all that it calls make is longer than what came in: it says more and counts as full. Else prove '..UptoSaid'. A law counts once. -/
mutual
def uptoBulk {H : Type} : DataW H → Nat
  | .lit (.string bytes) => bytes.length + 1
  | .lit _ => 1
  | .nil => 1
  | .ptr d => uptoBulk d + 1
  | .slice elems spare => uptoBulkAll elems + uptoBulkAll spare + 1
  | .agg parts => uptoBulkAll parts + 1
  | .iface _ d => uptoBulk d + 1
  | .map entries => uptoBulkEntries entries + 1
  | .held _ => 1
def uptoBulkAll {H : Type} : List (DataW H) → Nat
  | [] => 0
  | d :: r => uptoBulk d + uptoBulkAll r
def uptoBulkEntries {H : Type} : List (Lit × DataW H) → Nat
  | [] => 0
  | x :: r => uptoBulkEntry x + uptoBulkEntries r
def uptoBulkEntry {H : Type} : Lit × DataW H → Nat
  | (.string bytes, d) => bytes.length + uptoBulk d + 1
  | (_, d) => uptoBulk d + 1
 end
def uptoSmall : (H : Type) → List (DataW H) → Bool := fun _ ds => decide (uptoBulkAll ds ≤ 1048576)
def OpenSpec.upto (s : _root_.Go.ChangeSpec) : _root_.Go.OpenSpec := { _root_.Go.OpenSpec.ofChange s with cond := some uptoSmall }

/-- 'wharflaw19.RateTells', WHERE WHAT IT READS IS OF BULK AT MOST 1048576: true; the input reads as it did. -/
def rateTellsUptoRow : OpenClaim := { program := "ytbeclnffcapfpaa", sum := "ef0958ab158ec429689306591d35d92e6b20340c1f8d64d9a40deab13b289948", func := "wharf/wharflaw19.RateTells", spec := "rateTells", unfollowed := true, recurses := true, apart := false, narrowed := true }
def RateTellsUptoSaid : Prop := rateTellsUptoRow.holds Try.pinned (OpenSpec.upto rateTellsSpec)

/-- 'wharflaw19.RateRuns', WHERE WHAT IT READS IS OF BULK AT MOST 1048576: true; the input reads as it did. -/
def rateRunsUptoRow : OpenClaim := { program := "ytbeclnffcapfpaa", sum := "ef0958ab158ec429689306591d35d92e6b20340c1f8d64d9a40deab13b289948", func := "wharf/wharflaw19.RateRuns", spec := "rateRuns", unfollowed := true, recurses := true, apart := false, narrowed := true }
def RateRunsUptoSaid : Prop := rateRunsUptoRow.holds Try.pinned (OpenSpec.upto rateRunsSpec)

/-- 'wharflaw19.RateNever', WHERE WHAT IT READS IS OF BULK AT MOST 1048576: true; the input reads as it did. -/
def rateNeverUptoRow : OpenClaim := { program := "ytbeclnffcapfpaa", sum := "ef0958ab158ec429689306591d35d92e6b20340c1f8d64d9a40deab13b289948", func := "wharf/wharflaw19.RateNever", spec := "rateNever", unfollowed := true, recurses := true, apart := false, narrowed := true }
def RateNeverUptoSaid : Prop := rateNeverUptoRow.holds Try.pinned (OpenSpec.upto rateNeverSpec)

/-- 'wharflaw19.RateWaits', WHERE WHAT IT READS IS OF BULK AT MOST 1048576: true; the input reads as it did. -/
def rateWaitsUptoRow : OpenClaim := { program := "ytbeclnffcapfpaa", sum := "ef0958ab158ec429689306591d35d92e6b20340c1f8d64d9a40deab13b289948", func := "wharf/wharflaw19.RateWaits", spec := "rateWaits", unfollowed := true, recurses := true, apart := false, narrowed := true }
def RateWaitsUptoSaid : Prop := rateWaitsUptoRow.holds Try.pinned (OpenSpec.upto rateWaitsSpec)

/-- 'wharflaw19.RateOrder', WHERE WHAT IT READS IS OF BULK AT MOST 1048576: true; the input reads as it did. -/
def rateOrderUptoRow : OpenClaim := { program := "ytbeclnffcapfpaa", sum := "ef0958ab158ec429689306591d35d92e6b20340c1f8d64d9a40deab13b289948", func := "wharf/wharflaw19.RateOrder", spec := "rateOrder", unfollowed := true, recurses := true, apart := false, narrowed := true }
def RateOrderUptoSaid : Prop := rateOrderUptoRow.holds Try.pinned (OpenSpec.upto rateOrderSpec)

/-- 'wharflaw19.RateFull', WHERE WHAT IT READS IS OF BULK AT MOST 1048576: true; the input reads as it did. -/
def rateFullUptoRow : OpenClaim := { program := "ytbeclnffcapfpaa", sum := "ef0958ab158ec429689306591d35d92e6b20340c1f8d64d9a40deab13b289948", func := "wharf/wharflaw19.RateFull", spec := "rateFull", unfollowed := true, recurses := true, apart := false, narrowed := true }
def RateFullUptoSaid : Prop := rateFullUptoRow.holds Try.pinned (OpenSpec.upto rateFullSpec)

end Rows
end Go.Proofs.Ytbeclnffcapfpaa
