/- What is known of the structs that come in to the laws of this seat. -/
import Derived.Test.YtlcnhmigbdaajaaHx0
import Derived.Test.YtlcnhmigbdaajaaOpens
namespace Go.Proofs.Ytlcnhmigbdaajaa.H
open Go.RowKit Go.Proofs.YtlcnhmigbdaajaaW.PrintWords Go.Proofs.YtlcnhmigbdaajaaW.PrintLast Go.Proofs.YtlcnhmigbdaajaaW.PrintMore Go.Proofs.Ytlcnhmigbdaajaa.Opens
end Go.Proofs.Ytlcnhmigbdaajaa.H
