/- What is known of the structs that come in to the laws of this seat. -/
import Derived.Test.YtepdfpclicdpfaaHx0
import Derived.Test.YtepdfpclicdpfaaOpens
namespace Go.Proofs.Ytepdfpclicdpfaa.H
open Go.RowKit Go.Proofs.YtepdfpclicdpfaaW.PrintWords Go.Proofs.YtepdfpclicdpfaaW.PrintLast Go.Proofs.YtepdfpclicdpfaaW.PrintMore Go.Proofs.Ytepdfpclicdpfaa.Opens
end Go.Proofs.Ytepdfpclicdpfaa.H
