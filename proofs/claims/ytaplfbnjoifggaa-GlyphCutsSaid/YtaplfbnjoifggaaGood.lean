/- What is known of the structs that come in to the laws of this seat. -/
import Derived.Test.YtaplfbnjoifggaaHx0
import Derived.Test.YtaplfbnjoifggaaOpens
namespace Go.Proofs.Ytaplfbnjoifggaa.H
open Go.RowKit Go.Proofs.YtaplfbnjoifggaaW.PrintWords Go.Proofs.YtaplfbnjoifggaaW.PrintLast Go.Proofs.YtaplfbnjoifggaaW.PrintMore Go.Proofs.Ytaplfbnjoifggaa.Opens
end Go.Proofs.Ytaplfbnjoifggaa.H
