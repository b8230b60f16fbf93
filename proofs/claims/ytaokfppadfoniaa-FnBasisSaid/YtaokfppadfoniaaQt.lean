/- Regions that only read: what they leave. -/
import Derived.Test.YtaokfppadfoniaaBase
import Derived.Deep.QuietTactic
import Derived.BigQuiet
namespace Go.Proofs.Ytaokfppadfoniaa
open Go.RowKit
theorem bl_drewN {a w : World} (h : Below a.heap.size a w) : ∀ n, Below a.heap.size a (w.drewN n)
  | 0 => h
  | n + 1 => by
    have := (bl_drewN h n).drew
    rwa [World.drew_drewN] at this
end Go.Proofs.Ytaokfppadfoniaa
