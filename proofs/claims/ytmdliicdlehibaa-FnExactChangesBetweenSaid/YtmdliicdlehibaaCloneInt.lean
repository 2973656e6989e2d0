/- slices.Clone and the reference's copy at []int64. -/
import Derived.Test.YtmdliicdlehibaaInt64
import Derived.Test.YtmdliicdlehibaaApp
import Derived.Lib.SliceRun
namespace Go.Proofs.Ytmdliicdlehibaa
open Go.RowKit
end Go.Proofs.Ytmdliicdlehibaa
