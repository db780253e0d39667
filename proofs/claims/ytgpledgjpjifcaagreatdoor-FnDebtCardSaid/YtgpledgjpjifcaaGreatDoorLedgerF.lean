/- Ledgers and postings: the laws' own helpers. -/
import Derived.Test.YtgpledgjpjifcaaGreatDoorRows
import Derived.Test.YtgpledgjpjifcaaGreatDoorLine
namespace Go.Proofs.YtgpledgjpjifcaaGreatDoor
open Go.RowKit

end Go.Proofs.YtgpledgjpjifcaaGreatDoor
