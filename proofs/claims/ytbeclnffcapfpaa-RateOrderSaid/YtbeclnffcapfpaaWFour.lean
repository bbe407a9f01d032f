-- words of the kit's printer that this claim uses (left out by prune.py: what it does not)
import Derived.Test.YtbeclnffcapfpaaWTab
namespace Go.Proofs.YtbeclnffcapfpaaW.PrintLast
section
variable {P : Program} {ops : Array Oper} {Q : Exit → Act → World → Prop} {md : Region.Mode} {S : World → Prop} {ds : List Nat} {T : Bool × List (List Nat × List Nat)}
end
end Go.Proofs.YtbeclnffcapfpaaW.PrintLast
