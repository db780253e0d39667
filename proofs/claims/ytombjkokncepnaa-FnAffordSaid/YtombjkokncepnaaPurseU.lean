/- Purses: Used of the program. -/
import Derived.Test.YtombjkokncepnaaRows
import Derived.Test.YtombjkokncepnaaPurseS
namespace Go.Proofs.Ytombjkokncepnaa
open Go.RowKit

end Go.Proofs.Ytombjkokncepnaa
