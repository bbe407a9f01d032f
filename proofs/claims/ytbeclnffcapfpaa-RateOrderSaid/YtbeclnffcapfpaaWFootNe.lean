-- words of the kit's printer that this claim uses (left out by prune.py: what it does not)
import Derived.Test.YtbeclnffcapfpaaWN
namespace Go.Proofs.YtbeclnffcapfpaaW.PrintWords
open Go.RowKit
namespace Kd
section
variable {α : Type} {d : Kd α} {W : World} {g n : Nat} {S ok : Nat → Prop} {A : Option Addr} {ad : Addr} {xs : List α}
end
end Kd
end Go.Proofs.YtbeclnffcapfpaaW.PrintWords
