/- The card's closed facts. -/
import Derived.Test.YtjilbkckdnmbnaaGreatDoorCards
import Derived.ProofKit
import Derived.SevenTiedAt
set_option linter.all false
namespace Go.Proofs.YtjilbkckdnmbnaaGreatDoor
open Go
theorem cg1 : Rows.traceNoneRow.wfByText (OpenSpec.ofChange Rows.traceNoneSpec) = true := by kernel_rfl
theorem cg2 : Tryz.pinned.checked.prog.mainIs = some (true, "282942e2bd0608c23d68cb6324d140758d7e59fcb6fc00a56a2d24464d58b670".toList) := by kernel_rfl
theorem cg3 : true = Tryz.pinned.checked.prog.looks [] := by kernel_rfl
theorem goes_none {P : Program} (h : P.funcs.toList.all (fun fn => !fn.goes) = true) (f : FuncId) : P.goes f = false := by
  have hf : ∀ g : Nat, ((P.funcs[g]?).any Func.goes) = false := by
    intro g
    cases hg : P.funcs[g]? with
    | none => rfl
    | some fn =>
      have hm : fn ∈ P.funcs.toList := by
        have := Array.mem_of_getElem? hg
        simpa using this
      have := List.all_eq_true.1 h fn hm
      simpa using this
  have ha : P.funcs.any Func.goes = false := by
    rw [← Array.any_toList]
    rw [List.any_eq_false]
    intro fn hm
    have := List.all_eq_true.1 h fn hm
    simpa using this
  unfold Program.goes
  rw [ha, Bool.and_false, Bool.or_false, List.any_eq_false]
  intro g _
  rw [hf g]; simp
theorem goesBy_none {P : Program} {c : OpenClaim} (hs : c.start = .entering) (h : P.funcs.toList.all (fun fn => !fn.goes) = true) : false = c.goesBy P := by
  unfold OpenClaim.goesBy Program.goesAt Program.goesFrom
  rw [hs]
  cases P.funcNamed c.func with
  | none => rfl
  | some f => simp [goes_none h f]
theorem cg4 : false = Rows.traceNoneRow.goesBy Tryz.pinned.checked.prog := goesBy_none rfl (by kernel_rfl)
end Go.Proofs.YtjilbkckdnmbnaaGreatDoor
