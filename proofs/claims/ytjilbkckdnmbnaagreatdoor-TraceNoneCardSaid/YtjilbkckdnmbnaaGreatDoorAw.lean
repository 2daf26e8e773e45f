/- The closed run 'awake': the program's own tables for the evaluator, and where the run begins. -/
import Derived.Test.YtjilbkckdnmbnaaGreatDoorEc
import Derived.Test.YtjilbkckdnmbnaaGreatDoorGl
set_option linter.all false
namespace Go.Proofs.YtjilbkckdnmbnaaGreatDoor
open Go Go.Ev
theorem noGo : NoGo Tryz.prog := noGo_of (by kernel_rfl)
theorem mixed : Tryz.prog.follows .mixedOrders = true := by kernel_rfl
noncomputable def X : Exts := ⟨fun f => match Nat.beq f 182 with | true => some .same | false => (match Nat.beq f 235 with | true => some (.loadI .u32) | false => (match Nat.beq f 296 with | true => some .storeA | false => (match Nat.beq f 324 with | true => some (.casI .i32) | false => (match Nat.beq f 329 with | true => some (.addI .i32) | false => (match Nat.beq f 323 with | true => some .none0 | false => (match Nat.beq f 325 with | true => some .none0 | false => (match Nat.beq f 326 with | true => some .race | false => (match Nat.beq f 328 with | true => some .race | false => (none))))))))), fun t n => match Nat.beq t 316 with | true => (match n == "Replace" with | true => some 407 | false => none) | false => none⟩
theorem xf182 : Tryz.prog.funcs[182]? = some Tryz.f182 := by kernel_rfl
theorem xa182 : (Tryz.f182.name == "runtime.NumGoroutine") = false := by kernel_rfl
theorem xb182 : Tryz.f182.body.isNone = true := by kernel_rfl
theorem xn182 : Extern.findNext Tryz.f182 = none := by kernel_rfl
theorem xe182 : Extern.find Tryz.f182 = some (Extern.AbiNoEscape.same) := by kernel_rfl
theorem xo182 (vs : Array Value) (w : World) : (callFunc 182 vs).run Tryz.prog w = (do pure (.value (← (Xk.sem .same) vs)) : Sem Next).run Tryz.prog w := ext_run xf182 xa182 xb182 xn182 xe182 vs w
theorem xf235 : Tryz.prog.funcs[235]? = some Tryz.f235 := by kernel_rfl
theorem xa235 : (Tryz.f235.name == "runtime.NumGoroutine") = false := by kernel_rfl
theorem xb235 : Tryz.f235.body.isNone = true := by kernel_rfl
theorem xn235 : Extern.findNext Tryz.f235 = none := by kernel_rfl
theorem xe235 : Extern.find Tryz.f235 = some (Extern.Atomic.loadT (.int .u32)) := by kernel_rfl
theorem xo235 (vs : Array Value) (w : World) : (callFunc 235 vs).run Tryz.prog w = (do pure (.value (← (Xk.sem (.loadI .u32)) vs)) : Sem Next).run Tryz.prog w := ext_run xf235 xa235 xb235 xn235 xe235 vs w
theorem xf296 : Tryz.prog.funcs[296]? = some Tryz.f296 := by kernel_rfl
theorem xa296 : (Tryz.f296.name == "runtime.NumGoroutine") = false := by kernel_rfl
theorem xb296 : Tryz.f296.body.isNone = true := by kernel_rfl
theorem xn296 : Extern.findNext Tryz.f296 = none := by kernel_rfl
theorem xe296 : Extern.find Tryz.f296 = some (Extern.Atomic.storeT) := by kernel_rfl
theorem xo296 (vs : Array Value) (w : World) : (callFunc 296 vs).run Tryz.prog w = (do pure (.value (← (Xk.sem .storeA) vs)) : Sem Next).run Tryz.prog w := ext_run xf296 xa296 xb296 xn296 xe296 vs w
theorem xf324 : Tryz.prog.funcs[324]? = some Tryz.f324 := by kernel_rfl
theorem xa324 : (Tryz.f324.name == "runtime.NumGoroutine") = false := by kernel_rfl
theorem xb324 : Tryz.f324.body.isNone = true := by kernel_rfl
theorem xn324 : Extern.findNext Tryz.f324 = none := by kernel_rfl
theorem xe324 : Extern.find Tryz.f324 = some (Extern.Atomic.casT (.int .i32)) := by kernel_rfl
theorem xo324 (vs : Array Value) (w : World) : (callFunc 324 vs).run Tryz.prog w = (do pure (.value (← (Xk.sem (.casI .i32)) vs)) : Sem Next).run Tryz.prog w := ext_run xf324 xa324 xb324 xn324 xe324 vs w
theorem xf329 : Tryz.prog.funcs[329]? = some Tryz.f329 := by kernel_rfl
theorem xa329 : (Tryz.f329.name == "runtime.NumGoroutine") = false := by kernel_rfl
theorem xb329 : Tryz.f329.body.isNone = true := by kernel_rfl
theorem xn329 : Extern.findNext Tryz.f329 = none := by kernel_rfl
theorem xe329 : Extern.find Tryz.f329 = some (Extern.Atomic.update (Op.intArith .add) .i32 true) := by kernel_rfl
theorem xo329 (vs : Array Value) (w : World) : (callFunc 329 vs).run Tryz.prog w = (do pure (.value (← (Xk.sem (.addI .i32)) vs)) : Sem Next).run Tryz.prog w := ext_run xf329 xa329 xb329 xn329 xe329 vs w
theorem xf323 : Tryz.prog.funcs[323]? = some Tryz.f323 := by kernel_rfl
theorem xa323 : (Tryz.f323.name == "runtime.NumGoroutine") = false := by kernel_rfl
theorem xb323 : Tryz.f323.body.isNone = true := by kernel_rfl
theorem xn323 : Extern.findNext Tryz.f323 = none := by kernel_rfl
theorem xe323 : Extern.find Tryz.f323 = some (fun _ => do mark .disable; pure Extern.Race.none_) := by kernel_rfl
theorem xo323 (vs : Array Value) (w : World) : (callFunc 323 vs).run Tryz.prog w = (do pure (.value (← (Xk.sem .none0) vs)) : Sem Next).run Tryz.prog w := ext_mark xf323 xa323 xb323 xn323 xe323 vs w
theorem xf325 : Tryz.prog.funcs[325]? = some Tryz.f325 := by kernel_rfl
theorem xa325 : (Tryz.f325.name == "runtime.NumGoroutine") = false := by kernel_rfl
theorem xb325 : Tryz.f325.body.isNone = true := by kernel_rfl
theorem xn325 : Extern.findNext Tryz.f325 = none := by kernel_rfl
theorem xe325 : Extern.find Tryz.f325 = some (fun _ => do mark .enable; pure Extern.Race.none_) := by kernel_rfl
theorem xo325 (vs : Array Value) (w : World) : (callFunc 325 vs).run Tryz.prog w = (do pure (.value (← (Xk.sem .none0) vs)) : Sem Next).run Tryz.prog w := ext_mark xf325 xa325 xb325 xn325 xe325 vs w
theorem xf326 : Tryz.prog.funcs[326]? = some Tryz.f326 := by kernel_rfl
theorem xa326 : (Tryz.f326.name == "runtime.NumGoroutine") = false := by kernel_rfl
theorem xb326 : Tryz.f326.body.isNone = true := by kernel_rfl
theorem xn326 : Extern.findNext Tryz.f326 = none := by kernel_rfl
theorem xe326 : Extern.find Tryz.f326 = some (Extern.Race.marked .acquire) := by kernel_rfl
theorem xo326 (vs : Array Value) (w : World) : (callFunc 326 vs).run Tryz.prog w = (do pure (.value (← (Xk.sem .race) vs)) : Sem Next).run Tryz.prog w := ext_marked xf326 xa326 xb326 xn326 xe326 vs w
theorem xf328 : Tryz.prog.funcs[328]? = some Tryz.f328 := by kernel_rfl
theorem xa328 : (Tryz.f328.name == "runtime.NumGoroutine") = false := by kernel_rfl
theorem xb328 : Tryz.f328.body.isNone = true := by kernel_rfl
theorem xn328 : Extern.findNext Tryz.f328 = none := by kernel_rfl
theorem xe328 : Extern.find Tryz.f328 = some (Extern.Race.marked .releaseMerge) := by kernel_rfl
theorem xo328 (vs : Array Value) (w : World) : (callFunc 328 vs).run Tryz.prog w = (do pure (.value (← (Xk.sem .race) vs)) : Sem Next).run Tryz.prog w := ext_marked xf328 xa328 xb328 xn328 xe328 vs w

theorem xm (x : Value) (w : World) : (method (Tryz.prog.types.size + Made.depth) 316 x "Replace").run Tryz.prog w = .ok (407, x) w := by kernel_rfl
set_option maxRecDepth 100000 in
theorem extsOk : ExtsOk Tryz.prog X := by
  refine ⟨?_, ?_⟩
  · intro f k h vs w
    simp only [X] at h
    split at h
    · rename_i e1
      rw [Nat.eq_of_beq_eq_true e1, ← Option.some.inj h]
      exact xo182 vs w
    split at h
    · rename_i e1
      rw [Nat.eq_of_beq_eq_true e1, ← Option.some.inj h]
      exact xo235 vs w
    split at h
    · rename_i e1
      rw [Nat.eq_of_beq_eq_true e1, ← Option.some.inj h]
      exact xo296 vs w
    split at h
    · rename_i e1
      rw [Nat.eq_of_beq_eq_true e1, ← Option.some.inj h]
      exact xo324 vs w
    split at h
    · rename_i e1
      rw [Nat.eq_of_beq_eq_true e1, ← Option.some.inj h]
      exact xo329 vs w
    split at h
    · rename_i e1
      rw [Nat.eq_of_beq_eq_true e1, ← Option.some.inj h]
      exact xo323 vs w
    split at h
    · rename_i e1
      rw [Nat.eq_of_beq_eq_true e1, ← Option.some.inj h]
      exact xo325 vs w
    split at h
    · rename_i e1
      rw [Nat.eq_of_beq_eq_true e1, ← Option.some.inj h]
      exact xo326 vs w
    split at h
    · rename_i e1
      rw [Nat.eq_of_beq_eq_true e1, ← Option.some.inj h]
      exact xo328 vs w

    cases h
  · intro t n f h x w
    simp only [X] at h
    split at h
    · rename_i e1
      split at h
      · rename_i e2
        have e2' : n = "Replace" := by simpa using e2
        rw [Nat.eq_of_beq_eq_true e1, ← Option.some.inj h, e2']
        exact xm x w
      · cases h
    · cases h
noncomputable def cl : CallF := evCall Tryz.prog gl X 1000000 60
theorem clOk : CallOk Tryz.prog gl cl := evCall_ok noGo mixed extsOk 60
noncomputable def awc : Code := match Tryz.f12.body with | some c => c | none => .skip
noncomputable def s0 : CSt := ⟨⟨.leaf, H0⟩, []⟩
end Go.Proofs.YtjilbkckdnmbnaaGreatDoor
