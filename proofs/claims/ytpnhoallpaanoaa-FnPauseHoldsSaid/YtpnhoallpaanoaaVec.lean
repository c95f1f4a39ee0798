/- Contracts of due, VectorOk and their likes in the reference. -/
import Derived.Test.YtpnhoallpaanoaaRows
import Derived.Test.YtpnhoallpaanoaaBase
namespace Go.Proofs.Ytpnhoallpaanoaa
open Go.RowKit

def dueB (mc mt c t : Int) : Bool := decide (1 ≤ c) && (decide (mc ≤ c) || decide (mt ≤ t))
def vectorOkB (mc mt c t : Int) (m r : Bool) : Bool :=
  inB mc 1 64 && inB mt 0 64 && inB c 0 1000000 && inB t 0 1000000 && (decide (0 < c) || t == 0) && r == (dueB mc mt c t && !m)

end Go.Proofs.Ytpnhoallpaanoaa
