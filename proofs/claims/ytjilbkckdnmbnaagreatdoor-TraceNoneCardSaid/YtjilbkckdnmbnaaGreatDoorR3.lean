/- Piece 3 of the closed run, by the kernel. -/
import Derived.Test.YtjilbkckdnmbnaaGreatDoorAw
import Derived.Test.YtjilbkckdnmbnaaGreatDoorS3
import Derived.Test.YtjilbkckdnmbnaaGreatDoorS4
set_option linter.all false
namespace Go.Proofs.YtjilbkckdnmbnaaGreatDoor
open Go Go.Ev
theorem p3 : piece Tryz.prog gl O0 cl 125 1000000 1 (tailsC 6 awc) [0, 2, 3, 4, 5, 6, 8, 9] [0, 1, 2, 9, 659, 1939, 2111] s3 = some s4 := by kernel_rfl
end Go.Proofs.YtjilbkckdnmbnaaGreatDoor
