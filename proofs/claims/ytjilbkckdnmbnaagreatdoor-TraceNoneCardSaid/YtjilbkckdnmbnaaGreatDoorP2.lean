/- The tied card. -/
import Derived.Test.YtjilbkckdnmbnaaGreatDoorP1
import Derived.Test.YtjilbkckdnmbnaaGreatDoorG0
import Derived.Test.YtjilbkckdnmbnaaGreatDoorTie
import Derived.SevenTiedAt
set_option linter.all false
namespace Go.Proofs.YtjilbkckdnmbnaaGreatDoor
open Go
theorem named3 : Tryz.prog.funcNamed "leatwork/leatworklaw21.TraceNone" = some 3 := by kernel_rfl
theorem card_holds : Rows.TraceNoneCardSaid :=
  Claim7.holds_tied_plain_at .later [] [.data, .data, .data, .listed, .data, .data, .widerDeep] true (true, "282942e2bd0608c23d68cb6324d140758d7e59fcb6fc00a56a2d24464d58b670") true
    row_holds (fun _ h => by cases h) cg1 (fun _ h => by cases h) traceNone_row_tie rfl ⟨rfl, rfl⟩ cg2 rfl
    (fun f fn hf hfn => by
      obtain rfl : f = 3 := Option.some.inj (named3.symm.trans hf) |>.symm
      obtain rfl : fn = Tryz.f3 := (Option.some.inj (Tryz.func3.symm.trans hfn)).symm
      exact ⟨cg3, fun j t ht => by
        rw [Tryz.params3] at ht
        simp at ht⟩)
    cg4
end Go.Proofs.YtjilbkckdnmbnaaGreatDoor
