/- The law: the endless program. -/
import Derived.Test.YtjilbkckdnmbnaaGreatDoorM0
set_option linter.all false
namespace Go.Proofs.YtjilbkckdnmbnaaGreatDoor
open Go Go.Ev Go.RowKit
theorem m3 : anewR Tryz.f3.ntmps 10 gP [2, 3, 4, 5, 7, 8, 9, 10, 11, 12, 13, 14, 15, 16, 17, 18, 19, 20, 21, 22] (resOf (evCodeX Tryz.prog gl mTab cl Tryz.f3.ntmps 1000000 nR12 nX2)) = some nX3 := by kernel_rfl
end Go.Proofs.YtjilbkckdnmbnaaGreatDoor
