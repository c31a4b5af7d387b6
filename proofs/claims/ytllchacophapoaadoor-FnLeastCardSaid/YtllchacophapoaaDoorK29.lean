/- Pairs are drawn. -/
import Derived.Test.YtllchacophapoaaDoorK23
import Derived.Test.YtllchacophapoaaDoorK12
namespace Go.Proofs.YtllchacophapoaaDoor
open Go.RowKit
set_option maxRecDepth 4000

end Go.Proofs.YtllchacophapoaaDoor
