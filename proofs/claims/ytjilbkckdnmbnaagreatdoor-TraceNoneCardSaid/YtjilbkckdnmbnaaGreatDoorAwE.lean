/- The closed run 'awake' returns true, in every world where the variables hold what the row says, and leaves what was there as it was. -/
import Derived.Test.YtjilbkckdnmbnaaGreatDoorR0
import Derived.Test.YtjilbkckdnmbnaaGreatDoorR1
import Derived.Test.YtjilbkckdnmbnaaGreatDoorR2
import Derived.Test.YtjilbkckdnmbnaaGreatDoorR3
import Derived.Test.YtjilbkckdnmbnaaGreatDoorR4
import Derived.Test.YtjilbkckdnmbnaaGreatDoorR5
set_option linter.all false
namespace Go.Proofs.YtjilbkckdnmbnaaGreatDoor
open Go Go.Ev Go.RowKit
theorem awake_at {w : World} {ρ : Rho} (hr : HRel ρ H0 w) (hg : GRel gl ρ) (hown : ∀ b x I o, ρ b x = some I → H0.blks.get b = some o → o.ro = true) :
    Calls Tryz.prog 12 #[] w fun e w' => e = .returned (.bool true) ∧ Below w.heap.size w w' := by
  have key : Calls Tryz.prog 12 #[] w (Comes1 gl w (fun _ => False) (.bool true)) := by
    refine chain_calls (M := fun _ => False) (args := []) (show Tryz.prog.funcs[12]? = some Tryz.f12 by kernel_rfl) (show Tryz.f12.body = some awc from rfl) hr hg (fun b x I o h1 _ _ h2 => hown b x I o h1 h2) (by show RL ρ [] []; simp [RL]) ?_
    intro a0 w0 h0
    exact piece_ok O0_ok noGo clOk mixed p0 (fun a1 w1 h1 => by
      rw [tailsC_add]
      exact piece_ok O0_ok noGo clOk mixed p1 (fun a2 w2 h2 => by
        rw [tailsC_add]
        exact piece_ok O0_ok noGo clOk mixed p2 (fun a3 w3 h3 => by
          rw [tailsC_add]
          exact piece_ok O0_ok noGo clOk mixed p3 (fun a4 w4 h4 => by
            rw [tailsC_add]
            exact piece_ok O0_ok noGo clOk mixed p4 (fun a5 w5 h5 => by
              rw [tailsC_add]
              exact lastPiece_ok O0_ok noGo clOk mixed p5 a5 w5 h5) a4 w4 h4) a3 w3 h3) a2 w2 h2) a1 w1 h1) a0 w0 h0
  refine key.mono ?_
  rintro e w' ⟨ρ', H', u, rfl, hu, hG⟩
  simp only [R] at hu
  subst hu
  exact ⟨rfl, hG.below⟩
end Go.Proofs.YtjilbkckdnmbnaaGreatDoor
