/- math/bits: Len64, LeadingZeros64, off the shelf's templates. -/
import Derived.Test.YtdbmkfmenfcbiaaGreatRows
import Derived.Lib.Strings
import Derived.Lib.Slices
import Derived.Lib.Small
import Derived.Lib.Walk
import Derived.Lib.BitFns
namespace Go.Proofs.YtdbmkfmenfcbiaaGreat


end Go.Proofs.YtdbmkfmenfcbiaaGreat
