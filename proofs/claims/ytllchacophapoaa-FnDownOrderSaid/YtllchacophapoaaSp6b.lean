/- The reference's copy of a cluster. -/
import Derived.Test.YtllchacophapoaaK5
namespace Go.Proofs.Ytllchacophapoaa
open Go.RowKit
set_option maxRecDepth 4000

end Go.Proofs.Ytllchacophapoaa
