/- Piece 2 of the closed run, by the kernel. -/
import Derived.Test.YtjilbkckdnmbnaaGreatDoorAw
import Derived.Test.YtjilbkckdnmbnaaGreatDoorS2
import Derived.Test.YtjilbkckdnmbnaaGreatDoorS3
set_option linter.all false
namespace Go.Proofs.YtjilbkckdnmbnaaGreatDoor
open Go Go.Ev
theorem p2 : piece Tryz.prog gl O0 cl 125 1000000 3 (tailsC 3 awc) [0, 2, 3, 4, 5, 6] [0, 1, 2, 9, 659] s2 = some s3 := by kernel_rfl
end Go.Proofs.YtjilbkckdnmbnaaGreatDoor
