/- What is known of the structs that come in to the laws of this seat. -/
import Derived.Test.YtaaoaikfkgbfhaaHx0
import Derived.Test.YtaaoaikfkgbfhaaOpens
namespace Go.Proofs.Ytaaoaikfkgbfhaa.H
open Go.RowKit Go.Proofs.YtaaoaikfkgbfhaaW.PrintWords Go.Proofs.YtaaoaikfkgbfhaaW.PrintLast Go.Proofs.YtaaoaikfkgbfhaaW.PrintMore Go.Proofs.Ytaaoaikfkgbfhaa.Opens
end Go.Proofs.Ytaaoaikfkgbfhaa.H
