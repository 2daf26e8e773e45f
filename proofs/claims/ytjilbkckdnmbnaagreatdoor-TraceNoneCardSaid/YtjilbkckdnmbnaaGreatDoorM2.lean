/- The law: a schedule that is too long. -/
import Derived.Test.YtjilbkckdnmbnaaGreatDoorM0
set_option linter.all false
namespace Go.Proofs.YtjilbkckdnmbnaaGreatDoor
open Go Go.Ev Go.RowKit
theorem m2 : anewR Tryz.f3.ntmps 10 gP [2, 3, 4, 5, 7, 8, 9, 10, 11, 12, 13, 14, 15, 16, 17, 18, 19, 20] (resOf (evCodeX Tryz.prog gl tab0 cl Tryz.f3.ntmps 1000000 nR11 nX1)) = some nX2 := by kernel_rfl
theorem m2s : smsOf (obsOf (evCodeX Tryz.prog gl tab0 cl Tryz.f3.ntmps 1000000 nR11 nX1)) = [] := by kernel_rfl
end Go.Proofs.YtjilbkckdnmbnaaGreatDoor
