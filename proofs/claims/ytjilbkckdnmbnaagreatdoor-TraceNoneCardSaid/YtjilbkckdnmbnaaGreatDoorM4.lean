/- The law: what is asked of the endless program's run. -/
import Derived.Test.YtjilbkckdnmbnaaGreatDoorM0
set_option linter.all false
namespace Go.Proofs.YtjilbkckdnmbnaaGreatDoor
open Go Go.Ev Go.RowKit
theorem m3s : smsOf (obsOf (evCodeX Tryz.prog gl mTab cl Tryz.f3.ntmps 1000000 nR12 nX2)) = mSm := by kernel_rfl
theorem m4 : outX Tryz.prog Tryz.f3 (resOf (evCodeX Tryz.prog gl mTabA cl Tryz.f3.ntmps 1000000 nR13 nX3)) = some (.bool true) := by kernel_rfl
theorem m4s : smsOf (obsOf (evCodeX Tryz.prog gl mTabA cl Tryz.f3.ntmps 1000000 nR13 nX3)) = mSmA := by kernel_rfl
end Go.Proofs.YtjilbkckdnmbnaaGreatDoor
