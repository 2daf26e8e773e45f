/- Record on the endless program returns nil and ErrLimit. -/
import Derived.Test.YtjilbkckdnmbnaaGreatDoorN1
import Derived.Test.YtjilbkckdnmbnaaGreatDoorN2
import Derived.Test.YtjilbkckdnmbnaaGreatDoorN3
set_option linter.all false
namespace Go.Proofs.YtjilbkckdnmbnaaGreatDoor
open Go Go.Ev Go.RowKit
theorem gAll {ps : Pairs} (h0 : findO ps 0 = some (0, 0)) (h1 : findO ps 1 = some (1, 0)) (h2 : findO ps 2 = some (2, 0)) : ∀ g, gl g ≠ 0 → findO ps g = some (g, 0) := by
  intro g hg
  match g with
  | 0 => exact h0
  | 1 => exact h1
  | 2 => exact h2
  | 3 => exact absurd rfl hg
  | 4 => exact absurd rfl hg
  | 5 => exact absurd rfl hg
  | 6 => exact absurd rfl hg
  | 7 => exact absurd rfl hg
  | 8 => exact absurd rfl hg
  | n + 9 => exact absurd rfl hg
noncomputable def rSt : Nat → CSt
  | 0 => rS0
  | 1 => rS1
  | 2 => rS2
  | 3 => rS3
  | _ => rS4
def recI (d : Nat) (st : CSt) : Prop := (∃ j, j < 5 ∧ d = 30000 - j ∧ st = rSt j) ∨ ∃ k, 5 ≤ k ∧ k ≤ 20000 ∧ st = rS k ∧ d = 30000 - k
theorem recEnd : ∃ st, rEnd = some (.ret, st) ∧ st.ds = [] ∧ evRes Tryz.prog st.s Tryz.f4.results.toList = some [.nilslice, .int .i64 9] := by
  have h := r3
  unfold endOk at h
  split at h
  case h_2 => cases h
  rename_i st heq
  split at h
  case h_2 => cases h
  rename_i h1 h2
  exact ⟨st, heq, h1, h2⟩
def RecR (w : World) (e : Ending) (w' : World) : Prop := (∃ u, e = .returned u ∧ ∀ ρ, R ρ (.tuple [.nilslice, .int .i64 9]) u) ∧ Below w.heap.size w w'
theorem rec_ret {w0 : World} {n : Nat} {st : CSt} (hds : st.ds = []) (hres : evRes Tryz.prog st.s Tryz.f4.results.toList = some [.nilslice, .int .i64 9]) {a : Act} {w : World} (hat : At gl Tryz.f4.ntmps w0 (fun _ => False) st a w) :
    bodyPostM (W none) n Tryz.prog Tryz.f4 (RecR w0) .ret a w := by
  refine (at_ret hds hres ?_ hat).1
  intro u ρ w' g hu
  refine ⟨⟨u, rfl, fun ρ' => ?_⟩, g.below⟩
  have : oneOf [.nilslice, .int .i64 9] = .tuple [.nilslice, .int .i64 9] := rfl
  rw [this] at hu
  simp only [R, RL] at hu ⊢
  exact hu
theorem rec_round {w0 : World} {n : Nat} {Q : Exit → Act → World → Prop} (hret : ∀ a w, bodyPostM (W none) n Tryz.prog Tryz.f4 (RecR w0) .ret a w → Q .ret a w) :
    ∀ d st, recI d st → ∀ a w, At gl Tryz.f4.ntmps w0 (fun _ => False) st a w → rB.wpIn (W none) n Tryz.prog (Exit.then (fun a' w' => ∃ d' st', d' < d ∧ recI d' st' ∧ At gl Tryz.f4.ntmps w0 (fun _ => False) st' a' w') Q) a w := by
  intro d st hI a w hat
  rcases hI with ⟨j, hj, rfl, rfl⟩ | ⟨k, hk1, hk2, rfl, rfl⟩
  · match j, hj, hat with
    | 0, _, hat =>
      refine at_anew noGo clOk mixed (gAll rfl rfl rfl) n10 n10s (by simp) ?_ a w hat
      intro a' w' h'
      exact ⟨30000 - 1, rS1, by omega, .inl ⟨1, by omega, rfl, rfl⟩, h'⟩
    | 1, _, hat =>
      refine at_anew noGo clOk mixed (gAll rfl rfl rfl) n11 n11s (by simp) ?_ a w hat
      intro a' w' h'
      exact ⟨30000 - 2, rS2, by omega, .inl ⟨2, by omega, rfl, rfl⟩, h'⟩
    | 2, _, hat =>
      refine at_anew noGo clOk mixed (gAll rfl rfl rfl) n12 n12s (by simp) ?_ a w hat
      intro a' w' h'
      exact ⟨30000 - 3, rS3, by omega, .inl ⟨3, by omega, rfl, rfl⟩, h'⟩
    | 3, _, hat =>
      refine at_anew noGo clOk mixed (gAll rfl rfl rfl) n13 n13s (by simp) ?_ a w hat
      intro a' w' h'
      exact ⟨30000 - 4, rS4, by omega, .inl ⟨4, by omega, rfl, rfl⟩, h'⟩
    | 4, _, hat =>
      refine at_anew noGo clOk mixed (gAll rfl rfl rfl) n14 n14s (by simp) ?_ a w hat
      intro a' w' h'
      have h2 := (h'.blur 11).anyC 10 8
      have e2 : (⟨⟨rS5.s.t, Go.Ev.anyC 10 8 (blurH 11 rS5.s.H)⟩, rS5.ds⟩ : CSt) = rS 5 := nG
      rw [e2] at h2
      exact ⟨30000 - 5, rS 5, by omega, .inr ⟨5, by omega, by omega, rfl, rfl⟩, h2⟩
  · by_cases hk : k < 20000
    · refine at_anew noGo clOk mixed rg (r1 k) (r2 k) (rok hk) ?_ a w hat
      intro a' w' h'
      exact ⟨30000 - (k + 1), rS (k + 1), by omega, .inr ⟨k + 1, by omega, by omega, rfl, rfl⟩, h'⟩
    · obtain rfl : k = 20000 := by omega
      obtain ⟨st, h1, h2, h3⟩ := recEnd
      refine at_x noGo clOk mixed h1 r4 rokE ?_ a w hat
      intro a' w' h'
      exact hret a' w' (rec_ret h2 h3 h')
noncomputable def rRest : Code := tailC (tailsC 7 rc)
theorem e7 : tailsC 7 rc = .seq (.seq rA (.block 2 (.loop rB))) rRest := by kernel_rfl
theorem recRo : allRo recH.blks = true := by kernel_rfl
theorem recS1 : nodupB (newIds (selfP recF)) = true := by kernel_rfl
theorem recS2 : nodupB (oldIds (selfP recF)) = true := by kernel_rfl
theorem recS3 : lesB (newIds (selfP recF)) 290 = true := by kernel_rfl
theorem record_at {w : World} {ρ : Rho} {H : AHeap} {vs : Array Value} (h : HRel ρ H w) (hg : GRel gl ρ) (hl : ∀ p ∈ recF, H.blks.get p.1 = some p.2.2) (hargs : RL ρ [recV, .nilslice] vs.toList) :
    Calls Tryz.prog 4 vs w (RecR w) := by
  obtain ⟨h1, h2, h3⟩ := start_of (H2 := recH) h hg hl recS1 recS2 recS3 (gAll rfl rfl rfl) rfl
  have ha : RL (remap ρ (selfP recF)) [mv (selfP recF) recV, .nilslice] vs.toList := by
    obtain ⟨u, us, e1, k1, k2⟩ := RL_cons.1 hargs
    obtain ⟨u2, us2, e2, k3, k4⟩ := RL_cons.1 k2
    rw [e1, e2, RL_cons_cons, RL_cons_cons]
    exact ⟨h3 _ _ k1, by simpa only [R] using k3, by simpa only [RL] using k4⟩
  refine chain_calls (M := fun _ => False) (fn := Tryz.f4) (c := rc) (show Tryz.prog.funcs[4]? = some Tryz.f4 by kernel_rfl) rfl h1 h2 (fun b x I o _ _ _ ho => allRo_ok recRo b o ho) ha ?_
  intro a w' hat
  refine piece_ok O0_ok noGo clOk mixed n7 (fun a1 w1 g7 => ?_) a w' hat
  rw [e7]
  refine wpIn_seq ?_
  refine wpIn_seq ?_
  refine at_anew noGo clOk mixed (gAll rfl rfl rfl) nA nAs (by simp) ?_ a1 w1 g7
  intro a2 w2 g0
  refine wpIn_block ?_
  refine at_loop recI (rec_round ?_) 30000 rS0 (.inl ⟨0, by omega, rfl, rfl⟩) a2 w2 g0
  exact fun a w hq => hq
end Go.Proofs.YtjilbkckdnmbnaaGreatDoor
