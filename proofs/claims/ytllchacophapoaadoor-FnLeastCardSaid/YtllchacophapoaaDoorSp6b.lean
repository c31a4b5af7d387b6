/- The reference's copy of a cluster. -/
import Derived.Test.YtllchacophapoaaDoorK5
namespace Go.Proofs.YtllchacophapoaaDoor
open Go.RowKit
set_option maxRecDepth 4000

end Go.Proofs.YtllchacophapoaaDoor
