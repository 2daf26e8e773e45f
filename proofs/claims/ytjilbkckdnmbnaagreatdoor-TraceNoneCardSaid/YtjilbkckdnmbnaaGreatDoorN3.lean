/- Every later round. -/
import Derived.Test.YtjilbkckdnmbnaaGreatDoorN0
set_option linter.all false
namespace Go.Proofs.YtjilbkckdnmbnaaGreatDoor
open Go Go.Ev Go.RowKit
theorem r1 (k : Nat) : anewR Tryz.f4.ntmps 38 rP [6, 10, 15, 16] (resOf (evCodeX Tryz.prog gl (rTab k) cl Tryz.f4.ntmps 1000000 rB (rS k))) = some (rS (k + 1)) := by kernel_rfl
theorem r2 (k : Nat) : smsOf (obsOf (evCodeX Tryz.prog gl (rTab k) cl Tryz.f4.ntmps 1000000 rB (rS k))) = rSm k := by kernel_rfl
theorem rg : ∀ g, gl g ≠ 0 → findO rP g = some (g, 0) := by
  intro g hg
  match g with
  | 0 => rfl
  | 1 => rfl
  | 2 => rfl
  | 3 => exact absurd rfl hg
  | 4 => exact absurd rfl hg
  | 5 => exact absurd rfl hg
  | 6 => exact absurd rfl hg
  | 7 => exact absurd rfl hg
  | 8 => exact absurd rfl hg
  | n + 9 => exact absurd rfl hg
noncomputable def evI : TypeInfo := match Tryz.prog.info? 49 with | some i => i | none => default
noncomputable def evZ : AV := match zeroA Tryz.prog 49 with | some z => z | none => .bad
theorem z5 : evI.size = 5 := by kernel_rfl
theorem b5 : Nat.ble evI.bytes 1000 = true := by kernel_rfl
theorem rok {w0 : World} {M : Nat → Prop} {k : Nat} (hk : k < 20000) : ∀ x ∈ rSm k, Sm.ok Tryz.prog gl w0 M x := by
  intro x hx
  simp only [rSm, List.mem_cons, List.not_mem_nil, or_false] at hx
  rcases hx with rfl | rfl | rfl
  · refine sm_bin_tc ?_
    show some (AV.bool (eqI (.ofNat k) 20000)) = _
    rw [eqI_f]
    simp only [Int.ofNat_eq_natCast]; omega
  · refine sm_apd noGo clOk rfl rfl rfl (by decide) ?_
    intro H h2 h1
    have hb := Nat.le_of_ble_eq_true b5
    have := apd_eq (P := Tryz.prog) (t := 26) (u := 26) (e := 49) (inf := evI) (z0 := evZ) (b := 11) (b2 := 90) (k := k) (news := [.int .i64 0, .int .i64 0, .nilslice, .nilslice, .str [114, 101, 97, 100, 121]])
      (by kernel_rfl) (by kernel_rfl) (by kernel_rfl) (by kernel_rfl) (Nat.le_trans (Nat.mul_le_mul (show k + 1 ≤ 20000 by omega) hb) (by omega)) (by kernel_rfl) (by kernel_rfl) H h2 h1
    rw [z5] at this
    exact this
  · exact sm_bin_tc (add_of 1 (by omega))
noncomputable def outR (r : Option (Ex × CSt)) : Option (CSt × List AV) := match r with | some (.ret, st) => (match evRes Tryz.prog st.s Tryz.f4.results.toList with | some vs => some (st, vs) | none => none) | _ => none
noncomputable def rEnd : Option (Ex × CSt) := resOf (evCodeX Tryz.prog gl (tabL [(64, .bool true)] []) cl Tryz.f4.ntmps 1000000 rB (rS 20000))
noncomputable def endOk : Bool := match rEnd with | some (.ret, st) => (match st.ds, evRes Tryz.prog st.s Tryz.f4.results.toList with | [], some [.nilslice, .int .i64 9] => true | _, _ => false) | _ => false
theorem r3 : endOk = true := by kernel_rfl
theorem r4 : smsOf (obsOf (evCodeX Tryz.prog gl (tabL [(64, .bool true)] []) cl Tryz.f4.ntmps 1000000 rB (rS 20000))) = rSmE := by kernel_rfl
theorem rokE {w0 : World} {M : Nat → Prop} : ∀ x ∈ rSmE, Sm.ok Tryz.prog gl w0 M x := by
  intro x hx
  simp only [rSmE, List.mem_cons, List.not_mem_nil, or_false] at hx
  subst hx
  refine sm_bin_tc ?_
  rfl
end Go.Proofs.YtjilbkckdnmbnaaGreatDoor
