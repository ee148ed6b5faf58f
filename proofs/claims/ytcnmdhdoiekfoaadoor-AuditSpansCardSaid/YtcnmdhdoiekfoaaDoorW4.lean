/- The walks of the reference's Ordered and Settled. -/
import Derived.Test.YtcnmdhdoiekfoaaDoorW3
namespace Go.Proofs.YtcnmdhdoiekfoaaDoor
open Go.RowKit

def settledB (l : List FactD) (e : ByteArray) : Bool := decide (0 ≤ firstN l 1 e 0) && decide (firstN l 5 e 0 < 0) && decide (firstN l 8 e 0 < 0)



end Go.Proofs.YtcnmdhdoiekfoaaDoor
