/- What the evaluator knows of the variables of the program as the call begins. -/
import Derived.Test.YtjilbkckdnmbnaaGreatDoorEc
import Derived.Test.YtjilbkckdnmbnaaGreatDoorRows
set_option linter.all false
namespace Go.Proofs.YtjilbkckdnmbnaaGreatDoor
open Go Go.Ev
def listOf : DataW Unit → List (DataW Unit)
  | .agg ds => ds
  | .slice ds _ => ds
  | _ => []
def wordsD : List (DataW Unit) := listOf Rows.laid_leatwork_trace_words
def doneD : List (DataW Unit) := listOf Rows.laid_leatwork_core_Done
def spaceD : List (DataW Unit) := listOf Rows.laid_strings_asciiSpace
noncomputable def H0 : AHeap := heap4 10 0 1 2 9 (roObj [.slice 9 0 0 5 (some 5) 1]) (roObj (doneD.map litA)) (roObj (spaceD.map litA)) (roObj (wordsD.map litA))
noncomputable def gl : Nat → Nat := fun g => match nth [1, 2, 256, 0, 0, 0, 0, 0, 0] g with | some n => n | none => 0
theorem lenW : wordsD.length = 5 := by kernel_rfl
theorem lenD : doneD.length = 2 := by kernel_rfl
theorem lenA : spaceD.length = 256 := by kernel_rfl
theorem gW : Tryz.prog.globalNamed "leatwork/trace.words" = some 0 := by kernel_rfl
theorem gD : Tryz.prog.globalNamed "leatwork/core.Done" = some 1 := by kernel_rfl
theorem gA : Tryz.prog.globalNamed "strings.asciiSpace" = some 2 := by kernel_rfl
theorem tyW : (Tryz.prog.globals[0]?).map (·.type) = some 23 := by kernel_rfl
theorem tyD : (Tryz.prog.globals[1]?).map (·.type) = some 148 := by kernel_rfl
theorem tyA : (Tryz.prog.globals[2]?).map (·.type) = some 258 := by kernel_rfl
theorem uW : Tryz.prog.underlying 23 = some (.slice 9) := by kernel_rfl
theorem uS : Tryz.prog.underlying 9 = some .string := by kernel_rfl
theorem cS : Tryz.prog.cellsOf 9 = 1 := by kernel_rfl
theorem uA : Tryz.prog.underlying 258 = some (.array 256 5) := by kernel_rfl
theorem uB : Tryz.prog.underlying 5 = some (.int .u8) := by kernel_rfl
theorem cB : Tryz.prog.cellsOf 5 = 1 := by kernel_rfl
theorem cA : Tryz.prog.cellsOf 258 = 256 := by kernel_rfl
theorem uD : Tryz.prog.underlying 148 = some (.struct #[{ name := "Wait", type := 3, offset := 0, embedded := false, tag := "", pkgPath := "", byteOffset := 0 }, { name := "Raise", type := 3, offset := 1, embedded := false, tag := "", pkgPath := "", byteOffset := 8 }]) := by kernel_rfl
theorem uI : Tryz.prog.underlying 3 = some (.int .i64) := by kernel_rfl
theorem cI : Tryz.prog.cellsOf 3 = 1 := by kernel_rfl
theorem cD : Tryz.prog.cellsOf 148 = 2 := by kernel_rfl
theorem allW : ∀ d ∈ wordsD, ∃ x, d = .lit (.string x) := by
  intro d hd
  simp only [wordsD, listOf, Rows.laid_leatwork_trace_words, List.mem_cons, List.not_mem_nil, or_false] at hd
  rcases hd with rfl | rfl | rfl | rfl | rfl <;> exact ⟨_, rfl⟩
theorem eW : (Rows.laid_leatwork_trace_words : DataW Unit) = .slice wordsD [] := rfl
theorem eD : (Rows.laid_leatwork_core_Done : DataW Unit) = .agg doneD := rfl
theorem eA : (Rows.laid_strings_asciiSpace : DataW Unit) = .agg spaceD := rfl

theorem glob_start {w : World} {l : List (String × DataW Unit)} (h : laidMet Tryz.prog l w) {iW iD iA : Nat} (lW : l[iW]? = some ("leatwork/trace.words", Rows.laid_leatwork_trace_words)) (lD : l[iD]? = some ("leatwork/core.Done", Rows.laid_leatwork_core_Done))
    (lA : l[iA]? = some ("strings.asciiSpace", Rows.laid_strings_asciiSpace)) (nWD : iW ≠ iD) (nWA : iW ≠ iA) : ∃ ρ, HRel ρ H0 w ∧ GRel gl ρ ∧ ∀ b x I o, ρ b x = some I → H0.blks.get b = some o → o.ro = true := by
  obtain ⟨ps, hv, hnd, _⟩ := h
  obtain ⟨parts, hlen, rfl, hp⟩ := laid_parts hv
  obtain ⟨nd1, nd2⟩ := flat_nodup hnd
  obtain ⟨pW, hpW, g1, t1, c1, f1, q1, a1, a2, a3, a4, a5⟩ := hp iW _ lW
  obtain ⟨pD, hpD, g2, t2, c2, f2, q2, b1, b2, b3, b4, b5⟩ := hp iD _ lD
  obtain ⟨pA, hpA, g3, t3, c3, f3, q3, d1, d2, d3, d4, d5⟩ := hp iA _ lA
  obtain rfl := Option.some.inj (gW.symm.trans a1)
  obtain rfl := Option.some.inj (gD.symm.trans b1)
  obtain rfl := Option.some.inj (gA.symm.trans d1)
  obtain rfl := Option.some.inj (tyW.symm.trans a2)
  obtain rfl := Option.some.inj (tyD.symm.trans b2)
  obtain rfl := Option.some.inj (tyA.symm.trans d2)
  obtain ⟨ta, fza, ha⟩ := var_heap a1 a3
  obtain ⟨tb, fzb, hb⟩ := var_heap b1 b3
  obtain ⟨tc, fzc, hc⟩ := var_heap d1 d3
  rw [eW] at a4
  rw [eD] at b4
  rw [eA] at d4
  have hne : wordsD ≠ [] := by intro e; have := lenW; rw [e] at this; cases this
  obtain ⟨B, o, w1, w2, w3⟩ := trod_strs uW cS uS hne a4
  rw [lenW] at w1 w2
  have hcell : ∀ i, i < 5 → ∃ s, w.cell? ⟨B, o + i, none⟩ = some (.string s) ∧ ∀ d, wordsD[i]? = some d → d = .lit (.string s.data.toList) := by
    intro i hi
    have hlt : i < wordsD.length := by rw [lenW]; exact hi
    obtain ⟨x, hx⟩ := allW _ (List.getElem_mem hlt)
    obtain ⟨s, k1, k2⟩ := w3 i x (by rw [List.getElem?_eq_getElem hlt, hx])
    refine ⟨s, k1, ?_⟩
    intro d hd
    rw [List.getElem?_eq_getElem hlt, hx] at hd
    injection hd with hd
    rw [← hd, k2]
  have hblk : ∃ c t fz, w.heap[B]? = some (.cells c t fz) := by
    obtain ⟨s, k1, _⟩ := hcell 0 (by omega)
    unfold World.cell? at k1
    split at k1
    · rename_i c t fz hh; exact ⟨c, t, fz, hh⟩
    · cases k1
  obtain ⟨c9, t9, fz9, h9⟩ := hblk
  have hcell9 : ∀ i, i < 5 → ∃ s, c9[o + i]? = some (.string s) ∧ ∀ d, wordsD[i]? = some d → d = .lit (.string s.data.toList) := by
    intro i hi
    obtain ⟨s, k1, k2⟩ := hcell i hi
    refine ⟨s, ?_, k2⟩
    simpa [World.cell?, h9] using k1
  have hsz9 : o + 5 ≤ c9.size := by
    obtain ⟨s, k1, _⟩ := hcell9 4 (by omega)
    have := (Array.getElem?_eq_some_iff.1 k1).1
    omega
  have hc1 : c1 = #[.slice (some ⟨B, o, none⟩) 5 5] := by apply Array.ext'; simpa using w1
  -- the row lies elsewhere
  have hBW : 0 ≠ B := by
    intro e
    subst e
    rw [ha] at h9
    injection h9 with h9
    injection h9 with h9
    subst h9
    rw [hc1] at hsz9
    simp at hsz9
  have hBD : 1 ≠ B := by
    intro e
    subst e
    rw [hb] at h9
    injection h9 with h9
    injection h9 with h9
    subst h9
    refine nd2 iW iD _ _ hpW hpD nWD (.cell 1 (o + 0)) ?_ ?_
    · rw [a5]; exact List.mem_append_right _ (w2 0 (by omega))
    · rw [b5]; exact List.mem_append_left _ (MemPlace.mem_row.2 ⟨o, by omega, by simp⟩)
  have hBA : 2 ≠ B := by
    intro e
    subst e
    rw [hc] at h9
    injection h9 with h9
    injection h9 with h9
    subst h9
    refine nd2 iW iA _ _ hpW hpA nWA (.cell 2 (o + 0)) ?_ ?_
    · rw [a5]; exact List.mem_append_right _ (w2 0 (by omega))
    · rw [d5]; exact List.mem_append_left _ (MemPlace.mem_row.2 ⟨o, by omega, by simp⟩)
  have lt_of : ∀ {g : Nat} {c : Array Value} {t : TypeId} {fz : Nat × Nat}, w.heap[g]? = some (.cells c t fz) → g < w.heap.size := fun h => (Array.getElem?_eq_some_iff.1 h).1
  obtain ⟨n2, z2⟩ := trod_struct uD b4
  rw [cD] at n2
  have n2' : c2.size = 2 := by simpa using n2
  obtain ⟨n3, z3⟩ := array_rel (ρ := rho4 0 1 2 9 ⟨0, 0, 1, c1.size, 0⟩ ⟨1, 0, 2, c2.size, 0⟩ ⟨2, 0, 256, c3.size, 0⟩ ⟨B, 0, 5, c9.size, o⟩) uA uB cB cA d4
  rw [lenA] at n3
  have n3' : c3.size = 256 := by simpa using n3.symm
  have hc1s : c1.size = 1 := by rw [hc1]; rfl
  refine ⟨rho4 0 1 2 9 ⟨0, 0, 1, c1.size, 0⟩ ⟨1, 0, 2, c2.size, 0⟩ ⟨2, 0, 256, c3.size, 0⟩ ⟨B, 0, 5, c9.size, o⟩,
    rel4 (by decide) (by decide) (by decide) (by decide) (by decide) (by decide) (by decide) (by decide) (by decide) (by decide) (by simp) (by simp) (by simpa using hBW) (by simp) (by simpa using hBD) (by simpa using hBA)
      ⟨lt_of ha, by simp [hc1s]⟩ ⟨lt_of hb, by simp [n2']⟩ ⟨lt_of hc, by simp [n3']⟩ ⟨lt_of h9, by show 5 + o ≤ 0 + c9.size; omega⟩ ?_ ?_ ?_ ?_, ?_, ?_⟩
  · refine roObj_rel ha ?_ 1
    intro i a hi
    cases i with
    | succ i => simp at hi
    | zero =>
      simp at hi; subst hi
      refine ⟨.slice (some ⟨B, o, none⟩) 5 5, by rw [hc1]; rfl, ?_⟩
      simp only [R]
      refine ⟨⟨B, 0, 5, c9.size, o⟩, ⟨B, o, none⟩, 5, by simp [rho4], Nat.zero_le _, by simp, by omega, rfl, .inl ⟨by simp, by show 0 + o - 0 + 5 * 1 ≤ c9.size; omega⟩, ?_⟩
      intro c' hc'
      injection hc' with hc'
      subst hc'
      exact ⟨rfl, by simp⟩
  · refine roObj_rel hb ?_ 2
    intro i a hi
    rw [List.getElem?_map] at hi
    have hfield : ∀ j, j < 2 → ∀ d, doneD[j]? = some d → ∃ c, c2[j]? = some c ∧ R (rho4 0 1 2 9 ⟨0, 0, 1, c1.size, 0⟩ ⟨1, 0, 2, c2.size, 0⟩ ⟨2, 0, 256, c3.size, 0⟩ ⟨B, 0, 5, c9.size, o⟩) (litA d) c := by
      intro j hj d hd
      have hlen2 : c2.toList.length = 2 := n2
      rcases j with _ | _ | j
      · obtain ⟨c, f', p', k1, k2⟩ := z2 0 _ d rfl hd cI (by rw [hlen2]; decide)
        exact ⟨c, by simpa using k1, lit_rel uI (.inr ⟨_, rfl⟩) k2⟩
      · obtain ⟨c, f', p', k1, k2⟩ := z2 1 _ d rfl hd cI (by rw [hlen2]; decide)
        exact ⟨c, by simpa using k1, lit_rel uI (.inr ⟨_, rfl⟩) k2⟩
      · omega
    cases hd : doneD[i]? with
    | none => rw [hd] at hi; cases hi
    | some d =>
      rw [hd] at hi
      simp at hi; subst hi
      have hlt := (List.getElem?_eq_some_iff.1 hd).1
      rw [lenD] at hlt
      obtain ⟨c, k1, k2⟩ := hfield i hlt d hd
      exact ⟨c, by simpa using k1, k2⟩
  · refine roObj_rel hc ?_ 256
    intro i a hi
    obtain ⟨u, k1, k2⟩ := z3 i a hi
    exact ⟨u, by simpa using k1, k2⟩
  · refine roObj_rel h9 ?_ 5
    intro i a hi
    rw [List.getElem?_map] at hi
    cases hd : wordsD[i]? with
    | none => rw [hd] at hi; cases hi
    | some d =>
      rw [hd] at hi
      simp at hi; subst hi
      have hlt := (List.getElem?_eq_some_iff.1 hd).1
      rw [lenW] at hlt
      obtain ⟨s, k1, k2⟩ := hcell9 i hlt
      refine ⟨_, by rw [Nat.add_comm]; exact k1, ?_⟩
      rw [k2 d hd]
      simp only [litA, R]
      exact ⟨s, rfl, rfl⟩
  · intro g hg
    have hgs : g = 0 ∨ g = 1 ∨ g = 2 := by
      apply Classical.byContradiction
      intro hn
      simp only [not_or] at hn
      apply hg
      obtain ⟨m1, m2, m3⟩ := hn
      match g, m1, m2, m3 with
      | 0, m1, m2, m3 => exact absurd rfl m1
      | 1, m1, m2, m3 => exact absurd rfl m2
      | 2, m1, m2, m3 => exact absurd rfl m3
      | 3, m1, m2, m3 => rfl
      | 4, m1, m2, m3 => rfl
      | 5, m1, m2, m3 => rfl
      | 6, m1, m2, m3 => rfl
      | 7, m1, m2, m3 => rfl
      | 8, m1, m2, m3 => rfl
      | g + 9, _, _, _ => rfl
    rcases hgs with rfl | rfl | rfl
    · exact ⟨⟨0, 0, 1, c1.size, 0⟩, by simp [rho4], rfl, ⟨rfl, rfl⟩, by show (1 : Nat) ≤ 1; exact Nat.le_refl _⟩
    · exact ⟨⟨1, 0, 2, c2.size, 0⟩, by simp [rho4], rfl, ⟨rfl, rfl⟩, by show (2 : Nat) ≤ 2; exact Nat.le_refl _⟩
    · exact ⟨⟨2, 0, 256, c3.size, 0⟩, by simp [rho4], rfl, ⟨rfl, rfl⟩, by show (256 : Nat) ≤ 256; exact Nat.le_refl _⟩
  · intro b x I o' hI ho
    unfold H0 at ho
    rw [heap4_get] at ho
    split at ho
    · cases ho; rfl
    · split at ho
      · cases ho; rfl
      · split at ho
        · cases ho; rfl
        · split at ho
          · cases ho; rfl
          · cases ho
end Go.Proofs.YtjilbkckdnmbnaaGreatDoor
