/- Purses: Used of the program. -/
import Derived.Test.YtmafdoloidlfeaaRows
import Derived.Test.YtmafdoloidlfeaaPurseS
namespace Go.Proofs.Ytmafdoloidlfeaa
open Go.RowKit

end Go.Proofs.Ytmafdoloidlfeaa
