/- The law returns true. -/
import Derived.Test.YtjilbkckdnmbnaaGreatDoorN4
import Derived.Test.YtjilbkckdnmbnaaGreatDoorM1
import Derived.Test.YtjilbkckdnmbnaaGreatDoorM2
import Derived.Test.YtjilbkckdnmbnaaGreatDoorM3
import Derived.Test.YtjilbkckdnmbnaaGreatDoorM4
import Derived.Test.YtjilbkckdnmbnaaGreatDoorAwE
set_option linter.all false
namespace Go.Proofs.YtjilbkckdnmbnaaGreatDoor
open Go Go.Ev Go.RowKit
theorem mok3 {w0 : World} : ∀ x ∈ mSm, Sm.ok Tryz.prog gl w0 (fun _ => False) x := by
  intro x hx
  simp only [mSm, List.mem_cons, List.not_mem_nil, or_false] at hx
  subst hx
  refine sm_callH ⟨Tryz.f4, by kernel_rfl, by kernel_rfl⟩ noGo rfl ?_
  rintro w ρ H ec t g hv ⟨ids, ho⟩ hd hc
  have ho' : objIds H ids = recF.map (fun p => (p.1, some p.2.2)) := by
    have e : objsOf H [recV] ids = objOf1 H recV :: objIds H ids := rfl
    rw [e] at ho
    injection ho
  have e1 := hd 73 (by show 73 ∈ [73]; simp)
  have e2 : Go.Ev.look t 73 = recV := by
    injection hv
  rw [e2] at e1
  have e3 : ((#[Operand.tmp 73, .const (.slice none 0 0)] : Array Operand).map ec).toList = [ec (.tmp 73), .slice none 0 0] := by simp [hc]
  refine record_at g.rel g.glo (objIds_get ho') ?_
  rw [e3, RL_cons_cons, RL_cons_cons]
  exact ⟨e1, by simp [R], by simp [RL]⟩
theorem mokA {w0 : World} {ρ0 : Rho} (hr : HRel ρ0 H0 w0) (hg : GRel gl ρ0) (hown : ∀ b x I o, ρ0 b x = some I → H0.blks.get b = some o → o.ro = true) : ∀ x ∈ mSmA, Sm.ok Tryz.prog gl w0 (fun _ => False) x := by
  intro x hx
  simp only [mSmA, List.mem_cons, List.not_mem_nil, or_false] at hx
  subst hx
  refine sm_call ⟨Tryz.f12, by kernel_rfl, by kernel_rfl⟩ noGo rfl ?_
  intro w ρ ec t hb hv hd hc
  have e0 : (#[] : Array Operand).map ec = #[] := by simp
  have hA := awake_at (Step.of_below hr hb).rel hg hown
  rw [← e0] at hA
  refine hA.mono ?_
  rintro e w' ⟨rfl, h⟩
  exact ⟨⟨_, rfl, fun ρ => by simp [R]⟩, h⟩
theorem law_at {w : World} {ρ : Rho} (hr : HRel ρ H0 w) (hg : GRel gl ρ) (hown : ∀ b x I o, ρ b x = some I → H0.blks.get b = some o → o.ro = true) :
    Calls Tryz.prog 3 #[] w fun e w' => e = .returned (.bool true) ∧ Below w.heap.size w w' := by
  refine chain_calls (M := fun _ => False) (args := []) (fn := Tryz.f3) (c := nc) (show Tryz.prog.funcs[3]? = some Tryz.f3 by kernel_rfl) rfl hr hg (fun b x I o h1 _ _ h2 => hown b x I o h1 h2) (by show RL ρ [] []; simp [RL]) ?_
  intro a0 w0 h0
  refine piece_ok O0_ok noGo clOk mixed m0 (fun a1 w1 h1 => ?_) a0 w0 h0
  have h1' := At.anew (gAll rfl rfl rfl) h1 m1
  rw [mE]
  refine wpIn_seq ?_
  refine at_anew noGo clOk mixed (gAll rfl rfl rfl) m2 m2s (by simp) ?_ a1 w1 h1'
  intro a2 w2 h2
  refine wpIn_seq ?_
  refine at_anew noGo clOk mixed (gAll rfl rfl rfl) m3 m3s mok3 ?_ a2 w2 h2
  intro a3 w3 h3
  refine at_out noGo clOk mixed m4 m4s (mokA hr hg hown) ?_ a3 w3 h3
  intro u ρ' H w' g hu
  simp only [R] at hu
  subst hu
  exact ⟨rfl, g.below⟩
end Go.Proofs.YtjilbkckdnmbnaaGreatDoor
