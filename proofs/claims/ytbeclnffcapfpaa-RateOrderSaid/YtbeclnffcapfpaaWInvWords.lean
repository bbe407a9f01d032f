-- words of the kit's printer that this claim uses (left out by prune.py: what it does not)
import Derived.Test.YtbeclnffcapfpaaWInv
import Derived.Test.YtbeclnffcapfpaaWFootNe
namespace Go.Proofs.YtbeclnffcapfpaaW.PrintWords
open Go.RowKit
end Go.Proofs.YtbeclnffcapfpaaW.PrintWords
namespace Go.Proofs.YtbeclnffcapfpaaW.PrintLast
section
variable {ops : Array Oper} {a : Act} {o og : Oper} {g : Nat} {t : Tmp} {u : Bool}
end
end Go.Proofs.YtbeclnffcapfpaaW.PrintLast
