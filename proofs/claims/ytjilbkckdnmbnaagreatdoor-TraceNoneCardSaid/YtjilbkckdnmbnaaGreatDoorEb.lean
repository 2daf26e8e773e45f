/- An evaluator over abstract values for the code of the program, and its soundness (part 2). -/
import Derived.Test.YtjilbkckdnmbnaaGreatDoorEa
import Derived.RangeFuncRecord
import Derived.Laws.BytesString
import Derived.OrdersIn
import Derived.RangeFuncLeaves
import Derived.LoopNIn
import Derived.Lib.ConvBytes
import Derived.Below
import Derived.Recover
set_option linter.all false
/- Places seen through unsafe pointers: the conversions, and the strings that share a row's bytes. -/
namespace Go.Ev
variable {P : Program} {ρ : Rho} {H : AHeap} {w : World}

theorem putObj_size' (w : World) (r : Nat) (o : Obj) : (w.putObj r o).heap.size = w.heap.size := by simp [World.putObj]

/-- A block that is known is laid anew, and nothing more is known of it. -/
theorem drop_step (hr : HRel ρ H w) {k x : Nat} {I : Inc} {o : AObj} {o' : Obj} (hI : ρ k x = some I) (hg : H.blks.get k = some o) (hro : o.ro = false) :
    Step ρ H w ρ ⟨H.next, H.blks.set k .gone⟩ (w.putObj I.B o') := by
  have hlt := hr.lt _ _ _ hI
  refine ⟨⟨hr.inj, ?_, ?_, ?_⟩, Ext.refl _, fun _ _ _ h => .inl h, fun _ _ _ _ _ h => h, ⟨Nat.le_refl _, ?_, ?_⟩, ⟨rfl, rfl, rfl, by rw [putObj_size']; exact Nat.le_refl _, ?_⟩⟩
  · intro b x J hJ
    have := hr.lt _ _ _ hJ
    exact ⟨this.1, by rw [putObj_size']; exact this.2.1, this.2.2⟩
  · intro b x J q hJ hq
    by_cases e : b = k
    · subst e
      rw [T.get_set_same] at hq; cases hq
      trivial
    · rw [T.get_set_ne _ _ e] at hq
      have hne : J.B ≠ I.B := fun h => e (hr.inj _ _ _ _ _ _ hJ hI h).1
      exact (hr.blk _ _ _ _ hJ hq).same (World.putObj_heap_other hne)
  · intro b hb
    have hb' : H.next ≤ b := hb
    show (H.blks.set k .gone).get b = none
    rw [T.get_set_ne _ _ (by omega)]
    exact hr.top b hb'
  · intro b hb hn
    by_cases e : b = k
    · subst e; rw [hg] at hn; cases hn
    · rw [T.get_set_ne _ _ e]; exact hn
  · intro b q hq
    by_cases e : b = k
    · subst e
      rw [hg] at hq; cases hq
      exact ⟨.gone, T.get_set_same _ _ _, by rw [hro]; rfl⟩
    · exact ⟨q, by rw [T.get_set_ne _ _ e]; exact hq, rfl⟩
  · intro B hB ho
    have hne : B ≠ I.B := by
      intro e
      have := ho k x I o hI e.symm hg
      rw [hro] at this; cases this
    exact World.putObj_heap_other hne

theorem sameLayout_self {d : Nat} {t : TypeId} : sameLayout P (d + 1) t t = true := by
  unfold sameLayout; simp

theorem liesAt_self {e : TypeId} {count off n d : Nat} (hd : P.depth = d + 1) (hs : P.cellsOf e ≠ 0) (ho : off % P.cellsOf e = 0) (hn : off / P.cellsOf e + n ≤ count) : liesAt P P.depth e count off e n = true := by
  have hrow : rowAt P (sameLayout P P.depth · e) P.depth e count off n = true := by
    rw [hd]
    unfold rowAt
    simp only [hs, if_false, ho, beq_self_eq_true, Bool.true_and, sameLayout_self, Bool.and_true]
    simp [hn]
  rw [hd] at hrow ⊢
  unfold liesAt
  rw [hd, hrow]; rfl

noncomputable def isCB (H : AHeap) (b : Nat) : Bool :=
  match H.blks.get b with
  | some (.cells _ _ _ _) => true
  | _ => false
noncomputable def fitsB (P : Program) (H : AHeap) (b i x lim : Nat) (u : TypeId) (n : Nat) : Bool :=
  match H.blks.get b with
  | some (.cells _ (some e) _ _) => Nat.beq e u && !Nat.beq (P.cellsOf u) 0 && Nat.beq (Nat.mod i (P.cellsOf u)) 0 && Nat.ble (i + n * P.cellsOf u) lim && (Nat.beq (P.cellsOf u) 1 || Nat.beq x 0)
  | _ => false

theorem isCB_ok (hr : HRel ρ H w) {b x : Nat} {I : Inc} (hI : ρ b x = some I) (h : isCB H b = true) : ∃ c el fz, w.heap[I.B]? = some (.cells c el fz) ∧ c.size = I.n := by
  unfold isCB at h
  split at h
  case h_2 => cases h
  rename_i hg
  obtain ⟨_, _, _, c, el, fz, h4, h5, _⟩ := hr.blk b x I _ hI hg
  exact ⟨c, el, fz, h4, h5⟩

theorem fitsB_ok (hr : HRel ρ H w) {b i x lim n : Nat} {u : TypeId} {I : Inc} (hI : ρ b x = some I) (hs : I.s ≤ i + I.d) (hl : lim ≤ I.e) (h : fitsB P H b i x lim u n = true) :
    (variablesAt ⟨I.B, i + I.d - I.s, none⟩ u n).run P w = .ok true w ∧ P.cellsOf u ≠ 0 ∧ i + n * P.cellsOf u ≤ lim := by
  unfold fitsB at h
  split at h
  case h_2 => cases h
  rename_i ro e cur cs hg
  simp only [Bool.and_eq_true, Bool.or_eq_true, Bool.not_eq_true'] at h
  obtain ⟨⟨⟨⟨h1, h3⟩, h4⟩, h5⟩, h6⟩ := h
  have h1 := Nat.eq_of_beq_eq_true h1
  have h3 := Nat.ne_of_beq_eq_false h3
  have h4 : i % P.cellsOf u = 0 := Nat.eq_of_beq_eq_true h4
  have h5 := Nat.le_of_ble_eq_true h5
  subst h1
  obtain ⟨_, _, _, c, el, fz, g4, g5, g6, _⟩ := hr.blk b x I _ hI hg
  obtain ⟨_, hB, hen⟩ := hr.lt b x I hI
  have hel := g6.2.1 e rfl
  subst hel
  obtain ⟨d, hd⟩ : ∃ d, P.depth = d + 1 := ⟨_, rfl⟩
  refine ⟨?_, h3, h5⟩
  have hsh : w.shape? I.B = some (el, c.size) := by simp [World.shape?, g4]
  have hmod : (i + I.d - I.s) % P.cellsOf el = 0 := by
    rcases h6 with h6 | h6
    · rw [Nat.eq_of_beq_eq_true h6]; exact Nat.mod_one _
    · have := g6.2.2 (Nat.eq_of_beq_eq_true h6) (by simp)
      rw [this.1, this.2]; simpa using h4
  have hcnt : (i + I.d - I.s) / P.cellsOf el + n ≤ c.size / P.cellsOf el := by
    have hpos : 0 < P.cellsOf el := Nat.pos_of_ne_zero h3
    rw [Nat.le_div_iff_mul_le hpos, Nat.add_mul]
    have := Nat.div_mul_le_self (i + I.d - I.s) (P.cellsOf el)
    omega
  unfold variablesAt
  simp only [Sem.run_bind, run_program, Result.andThen_ok, run_shape, hsh]
  rw [Sem.run_pure, liesAt_self hd h3 hmod hcnt]

noncomputable def evConvP (P : Program) (H : AHeap) (src dst : TypeId) (a : AV) : Option AV :=
  match P.underlying src, P.underlying dst with
  | some (.pointer t), some .unsafePointer =>
    (match a with
    | .nilptr => some .nilptr
    | .ptr b i _ lim => (match P.info? t with | some inf => bif !Nat.beq inf.size 0 && Nat.blt i lim && isCB H b then some a else none | none => none)
    | _ => none)
  | some .unsafePointer, some (.pointer u) =>
    (match a with
    | .nilptr => some .nilptr
    | .ptr b i x lim => (match P.info? u with | some _ => bif fitsB P H b i x lim u 1 then some a else none | none => none)
    | _ => none)
  | _, _ => none

theorem run_viewAt_cells {B : Nat} {c : Array Value} {el : TypeId} {fz : Nat × Nat} (h : w.heap[B]? = some (.cells c el fz)) : (viewAt B).run P w = .ok none w := by
  unfold viewAt
  simp [World.shape?, h]

theorem evConvP_ok (hr : HRel ρ H w) {src dst : TypeId} {a v : AV} {va : Value} (ha : R ρ a va) (h : evConvP P H src dst a = some v) : ∃ u, (convert src dst va).run P w = .ok u w ∧ R ρ v u := by
  unfold evConvP at h
  split at h
  · rename_i t hs hd
    split at h
    · injection h with h; subst h
      simp only [R] at ha; subst ha
      exact ⟨.pointer none, by simp [convert, run_underlying hs, run_underlying hd, Conv.unsafePointer], by simp [R]⟩
    · rename_i b i x lim
      split at h
      case h_2 => cases h
      rename_i inf hinf
      cases hc : !Nat.beq inf.size 0 && Nat.blt i lim && isCB H b with
      | false => rw [hc] at h; cases h
      | true =>
        rw [hc] at h
        simp only [cond_true] at h
        injection h with h; subst h
        simp only [Bool.and_eq_true, Bool.not_eq_true'] at hc
        obtain ⟨⟨hz, hl⟩, hcb⟩ := hc
        have hz := Nat.ne_of_beq_eq_false hz
        have hl : i < lim := by simpa [Nat.blt_eq] using hl
        have ha' := ha
        simp only [R] at ha
        obtain ⟨I, hI, hsi, hil, hle, rfl⟩ := ha
        obtain ⟨c, el, fz, h4, h5⟩ := isCB_ok hr hI hcb
        obtain ⟨_, _, hen⟩ := hr.lt b x I hI
        refine ⟨_, ?_, ha'⟩
        have hv := run_viewAt_cells (P := P) h4
        have hsh : w.shape? I.B = some (el, c.size) := by simp [World.shape?, h4]
        have hoff : ¬ (c.size ≤ i + I.d - I.s) := by omega
        simp [convert, run_underlying hs, run_underlying hd, Conv.unsafePointer, Conv.seenAt, hv, cellsIn, hsh, run_sizeOf' hinf, hz, hoff]
    · cases h
  · rename_i u hs hd
    split at h
    · injection h with h; subst h
      simp only [R] at ha; subst ha
      exact ⟨.pointer none, by simp [convert, run_underlying hs, run_underlying hd, Conv.unsafePointer], by simp [R]⟩
    · rename_i b i x lim
      split at h
      case h_2 => cases h
      rename_i inf hinf
      cases hc : fitsB P H b i x lim u 1 with
      | false => rw [hc] at h; cases h
      | true =>
        rw [hc] at h
        simp only [cond_true] at h
        injection h with h; subst h
        have ha' := ha
        simp only [R] at ha
        obtain ⟨I, hI, hsi, hil, hle, rfl⟩ := ha
        obtain ⟨hva, _, _⟩ := fitsB_ok hr hI hsi hle hc
        refine ⟨_, ?_, ha'⟩
        have hcb : isCB H b = true := by
          unfold fitsB at hc; unfold isCB
          split at hc
          · rename_i hg; rw [hg]
          · cases hc
        obtain ⟨c, el, fz, h4, h5⟩ := isCB_ok hr hI hcb
        have hv := run_viewAt_cells (P := P) h4
        simp [convert, run_underlying hs, run_underlying hd, Conv.unsafePointer, Conv.seenAt, hv, hva, run_sizeOf' hinf]
    · cases h
  · cases h

/-! The bytes behind a slice, and the string that shares them. -/
noncomputable def evUData : AV → Option AV
  | .nilslice => some .nilptr
  | .slice b i x ln _ z => bif Nat.beq ln 0 then none else some (.ptr b i x (i + ln * z))
  | _ => none

theorem evUData_ok {a v : AV} {va : Value} (ats : Array TypeId) (ty : TypeId) (ha : R ρ a va) (h : evUData a = some v) :
    ∃ u, (Builtin.unsafeSliceData_ ats ty #[va]).run P w = .ok u w ∧ R ρ v u := by
  unfold evUData at h
  split at h
  · injection h with h; subst h
    simp only [R] at ha; subst ha
    exact ⟨.pointer none, rfl, by simp [R]⟩
  · rename_i b i x ln cap z
    cases h0 : Nat.beq ln 0 with
    | true => rw [h0] at h; cases h
    | false =>
      rw [h0] at h
      simp only [cond_false] at h
      injection h with h; subst h
      have h0 := Nat.ne_of_beq_eq_false h0
      simp only [R] at ha
      obtain ⟨I, ad, c, hI, hs, he, hc, rfl, had, _⟩ := ha
      have hc0 : c ≠ 0 := by omega
      obtain ⟨rfl, _⟩ := had.resolve_right hc0
      have hdef : Builtin.unsafeSliceData_ ats ty #[.slice (some ⟨I.B, i + I.d - I.s, none⟩) ln c] = (if c ≠ 0 then pure (.pointer (some ⟨I.B, i + I.d - I.s, none⟩)) else do if (← viewAt I.B).isSome then pure (.pointer (some ⟨I.B, i + I.d - I.s, none⟩)) else pure (.pointer (some ⟨← newObj (.view ⟨I.B, i + I.d - I.s, none⟩ (← elemOf ty)), 0, none⟩)) : Sem Value) := rfl
      refine ⟨_, by rw [hdef, if_pos hc0]; rfl, ?_⟩
      simp only [R]
      exact ⟨I, hI, hs, Nat.le_add_right _ _, he, rfl⟩
  · cases h

noncomputable def byteA : AV → Option Nat
  | .int .u8 (.ofNat n) => bif Nat.blt n 256 then some n else none
  | _ => none
noncomputable def bytesA (l : List AV) : Option (List Nat) :=
  List.rec (motive := fun _ => Option (List Nat)) (some []) (fun a _ ih => match byteA a with | some n => (match ih with | some l => some (n :: l) | none => none) | none => none) l

theorem byteA_ok {a : AV} {v : Value} {n : Nat} (ha : R ρ a v) (h : byteA a = some n) : v = .int .u8 n ∧ n < 256 := by
  unfold byteA at h
  split at h
  · rename_i m
    cases hm : Nat.blt m 256 with
    | false => rw [hm] at h; cases h
    | true =>
      rw [hm] at h
      simp only [cond_true] at h
      injection h with h; subst h
      simp only [R] at ha
      exact ⟨ha, by simpa [Nat.blt_eq] using hm⟩
  · cases h

theorem run_loadBytes {B : Nat} : ∀ {l : List AV} {s : List Nat} {us : List Value} (o : Nat) (acc : ByteArray), bytesA l = some s → RL ρ l us → (∀ k, k < us.length → w.cell? ⟨B, o + k, none⟩ = us[k]?) →
    s.length = us.length ∧ ∃ ba, (loadBytes ⟨B, o, none⟩ acc us.length).run P w = .ok ba w ∧ bytesOf ba = bytesOf acc ++ s
  | [], s, us, o, acc, h, hl, _ => by
    injection h with h; subst h
    rw [RL_nil.1 hl]
    exact ⟨rfl, acc, by simp [loadBytes], by simp⟩
  | a :: l, s, us, o, acc, h, hl, hc => by
    obtain ⟨v, vs, rfl, h1, h2⟩ := RL_cons.1 hl
    replace h : (match byteA a with | some n => (match bytesA l with | some l => some (n :: l) | none => none) | none => none) = some s := h
    split at h
    case h_2 => cases h
    rename_i n hn
    split at h
    case h_2 => cases h
    rename_i s' hs'
    injection h with h; subst h
    obtain ⟨rfl, hn2⟩ := byteA_ok h1 hn
    have h0 : w.cell? ⟨B, o, none⟩ = some (.int .u8 n) := by simpa using hc 0 (by simp)
    obtain ⟨g1, ba, g2, g3⟩ := run_loadBytes (l := l) (o + 1) (acc.push (Int.toNat n).toUInt8) hs' h2 (fun k hk => by
      have := hc (k + 1) (by simp; omega)
      rw [show o + 1 + k = o + (k + 1) from by omega]
      simpa using this)
    refine ⟨by simp [g1], ba, ?_, ?_⟩
    · simp only [List.length_cons, loadBytes, Sem.run_bind, run_load, h0, Result.andThen_ok, addr_add]
      exact g2
    · rw [g3]
      unfold bytesOf
      simp only [ByteArray.push, Array.toList_push, List.map_append, List.map_cons, List.map_nil, List.append_assoc, List.cons_append, List.nil_append]
      congr 2
      simp
      exact hn2

theorem modify_eq_set {α : Type} {xs : Array α} {i : Nat} {x : α} {f : α → α} (h : xs[i]? = some x) : xs.modify i f = xs.setIfInBounds i (f x) := by
  apply Array.ext_getElem?
  intro j
  rw [Array.getElem?_modify, Array.getElem?_setIfInBounds]
  by_cases e : i = j
  · subst e
    obtain ⟨hlt, _⟩ := Array.getElem?_eq_some_iff.1 h
    rw [if_pos rfl, if_pos rfl, if_pos hlt, h]; rfl
  · rw [if_neg e, if_neg e]

theorem freeze_putObj {B o n : Nat} {c : Array Value} {el : TypeId} {fz : Nat × Nat} (h : w.heap[B]? = some (.cells c el fz)) : ∃ o', w.freeze ⟨B, o, none⟩ n = w.putObj B o' := by
  unfold World.freeze
  split
  · refine ⟨.cells c el fz, ?_⟩
    unfold World.putObj
    have : w.heap.setIfInBounds B (.cells c el fz) = w.heap := by
      apply Array.ext_getElem?
      intro j
      rw [Array.getElem?_setIfInBounds]
      by_cases e : B = j
      · subst e
        obtain ⟨hlt, _⟩ := Array.getElem?_eq_some_iff.1 h
        rw [if_pos rfl, if_pos hlt, h]
      · rw [if_neg e]
    rw [this]
  · exact ⟨_, by unfold World.putObj; simp only; rw [modify_eq_set h]⟩

theorem uStr_def (pt it ty : TypeId) (p : Option Addr) (v : Value) : Builtin.unsafeString_ #[pt, it] ty #[.pointer p, v] =
    (do
      let n ← asInt v
      if n < 0 then runtimePanic (.error "unsafe.String: len out of range")
      if n > IntKind.i64.max then unsupported (.unsafePointer "String: a length above the largest int")
      match p with
      | none =>
        if n = 0 then pure (.string .empty)
        else runtimePanic (.error "unsafe.String: ptr is nil and len is not zero")
      | some a =>
        if n = 0 then pure (.string .empty)
        else if ← variablesAt a (← elemOf pt) n.toNat then do
          let s ← loadBytes a .empty n.toNat
          freeze a n.toNat
          pure (.string s)
        else unsupported (.unsafePointer "String: not so many bytes at ptr")) := rfl

noncomputable def evUStr (P : Program) (H : AHeap) (pt : TypeId) (p n : AV) : Option (AV × AHeap) :=
  match P.underlying pt with
  | some (.pointer u) =>
    match p, n with
    | .nilptr, .int _ (.ofNat n) => bif Nat.beq n 0 then some (.str [], H) else none
    | .ptr b i x lim, .int _ (.ofNat n) =>
      bif Nat.beq n 0 then some (.str [], H) else
      match H.blks.get b with
      | some (.cells false _ _ _) =>
        bif fitsB P H b i x lim u n && Nat.beq (P.cellsOf u) 1 && Nat.ble n 9223372036854775807 then
          match readAt H b i x n with
          | some l => (match bytesA l with | some s => some (.str s, ⟨H.next, H.blks.set b .gone⟩) | none => none)
          | none => none
        else none
      | _ => none
    | _, _ => none
  | _ => none

theorem evUStr_ok (hr : HRel ρ H w) {pt : TypeId} {p n v : AV} {vp vn : Value} {H' : AHeap} (it ty : TypeId) (hp : R ρ p vp) (hn : R ρ n vn) (h : evUStr P H pt p n = some (v, H')) :
    ∃ u w', (Builtin.unsafeString_ #[pt, it] ty #[vp, vn]).run P w = .ok u w' ∧ R ρ v u ∧ Step ρ H w ρ H' w' := by
  have hempty : bytesOf ByteArray.empty = [] := rfl
  unfold evUStr at h
  split at h
  case h_2 => cases h
  rename_i u0 hd
  split at h
  case h_3 => cases h
  · rename_i k n
    cases h0 : Nat.beq n 0 with
    | false => rw [h0] at h; cases h
    | true =>
      rw [h0] at h
      simp only [cond_true] at h
      injection h with h
      simp only [Prod.mk.injEq] at h
      obtain ⟨rfl, rfl⟩ := h
      have h0 := Nat.eq_of_beq_eq_true h0
      subst h0
      simp only [R] at hp hn
      subst hp hn
      refine ⟨.string .empty, w, ?_, by simp only [R]; exact ⟨_, rfl, hempty⟩, Step.refl hr⟩
      rw [uStr_def]
      simp [asInt, asIntOf]
  · rename_i b i x lim k n
    simp only [R] at hp hn
    obtain ⟨I, hI, hs, hil, hle, rfl⟩ := hp
    subst hn
    cases h0 : Nat.beq n 0 with
    | true =>
      rw [h0] at h
      simp only [cond_true] at h
      injection h with h
      simp only [Prod.mk.injEq] at h
      obtain ⟨rfl, rfl⟩ := h
      have h0 := Nat.eq_of_beq_eq_true h0
      subst h0
      refine ⟨.string .empty, w, ?_, by simp only [R]; exact ⟨_, rfl, hempty⟩, Step.refl hr⟩
      rw [uStr_def]
      simp [asInt, asIntOf]
    | false =>
      rw [h0] at h
      simp only [cond_false] at h
      have h0 := Nat.ne_of_beq_eq_false h0
      split at h
      case h_2 => cases h
      rename_i ty0 cur cs hg
      cases hc : fitsB P H b i x lim u0 n && Nat.beq (P.cellsOf u0) 1 && Nat.ble n 9223372036854775807 with
      | false => rw [hc] at h; cases h
      | true =>
        rw [hc] at h
        simp only [cond_true] at h
        simp only [Bool.and_eq_true] at hc
        obtain ⟨⟨hf, hone⟩, hmax⟩ := hc
        have hone := Nat.eq_of_beq_eq_true hone
        have hmax := Nat.le_of_ble_eq_true hmax
        split at h
        case h_2 => cases h
        rename_i l hl
        split at h
        case h_2 => cases h
        rename_i s hsb
        injection h with h
        simp only [Prod.mk.injEq] at h
        obtain ⟨rfl, rfl⟩ := h
        obtain ⟨hva, _, hfit⟩ := fitsB_ok hr hI hs hle hf
        rw [hone, Nat.mul_one] at hfit
        obtain ⟨us, g1, g2, g3⟩ := readAt_ok hr hI hs hfit hle hl
        obtain ⟨g4, ba, g5, g6⟩ := run_loadBytes (P := P) (B := I.B) (i + I.d - I.s) .empty hsb g2 (fun k hk => g3 k (by omega))
        obtain ⟨_, _, _, c, el, fz, k4, _⟩ := hr.blk b x I _ hI hg
        obtain ⟨o', hfr⟩ := freeze_putObj (o := i + I.d - I.s) (n := n) k4
        refine ⟨.string ba, w.putObj I.B o', ?_, ?_, drop_step hr hI hg rfl⟩
        · have hneg : ¬ ((n : Int) < 0) := by omega
          have hbig : ¬ ((n : Int) > IntKind.i64.max) := by
            have : IntKind.i64.max = 9223372036854775807 := by decide
            rw [this]; omega
          have hn0 : ¬ ((n : Int) = 0) := by omega
          have hnn : Int.toNat (Int.ofNat n) = n := rfl
          rw [g1] at g5
          rw [uStr_def]
          simp [asInt, asIntOf, hneg, hbig, hn0, h0, elemOf, run_underlying hd, hva, g5, hfr]
          omega
        · simp only [R]
          exact ⟨ba, rfl, by rw [g6, hempty]; rfl⟩

/-! A string of the bytes that a slice shows. -/
noncomputable def evBS (P : Program) (H : AHeap) (src dst : TypeId) (a : AV) : Option AV :=
  match P.underlying src, P.underlying dst with
  | some (.slice e), some .string =>
    match P.underlying e, a with
    | some (.int .u8), .nilslice => some (.str [])
    | some (.int .u8), .slice b i x ln _ z => bif Nat.beq z 1 then (bif Nat.beq ln 0 then some (.str []) else (match readAt H b i x ln with | some l => (match bytesA l with | some s => some (.str s) | none => none) | none => none)) else none
    | _, _ => none
  | _, _ => none

theorem bytesA_ok : ∀ {l : List AV} {s : List Nat} {us : List Value}, bytesA l = some s → RL ρ l us → us = (s.map Int.ofNat).map (Value.int .u8) ∧ ∀ n ∈ s, n < 256
  | [], s, us, h, hl => by
    injection h with h; subst h
    rw [RL_nil.1 hl]
    exact ⟨rfl, by simp⟩
  | a :: l, s, us, h, hl => by
    obtain ⟨v, vs, rfl, h1, h2⟩ := RL_cons.1 hl
    replace h : (match byteA a with | some n => (match bytesA l with | some l => some (n :: l) | none => none) | none => none) = some s := h
    split at h
    case h_2 => cases h
    rename_i n hn
    split at h
    case h_2 => cases h
    rename_i s' hs'
    injection h with h; subst h
    obtain ⟨rfl, hn2⟩ := byteA_ok h1 hn
    obtain ⟨g1, g2⟩ := bytesA_ok hs' h2
    refine ⟨by rw [g1]; rfl, ?_⟩
    intro m hm
    rcases List.mem_cons.1 hm with rfl | hm
    · exact hn2
    · exact g2 m hm

theorem bytesOf_foldl : ∀ (s : List Nat) (acc : ByteArray), (∀ n ∈ s, n < 256) → bytesOf ((s.map Int.ofNat).foldl (fun r n => r.push (UInt8.ofNat n.toNat)) acc) = bytesOf acc ++ s
  | [], acc, _ => by simp
  | n :: s, acc, h => by
    simp only [List.map_cons, List.foldl_cons]
    rw [bytesOf_foldl s _ (fun m hm => h m (List.mem_cons_of_mem _ hm))]
    have : bytesOf (acc.push (UInt8.ofNat (Int.toNat (Int.ofNat n)))) = bytesOf acc ++ [n] := by
      unfold bytesOf
      simp only [ByteArray.push, Array.toList_push, List.map_append, List.map_cons, List.map_nil]
      congr 2
      simp
      exact h n (by simp)
    rw [this]; simp

theorem evBS_ok (hr : HRel ρ H w) {src dst : TypeId} {a v : AV} {va : Value} (ha : R ρ a va) (h : evBS P H src dst a = some v) : ∃ u, (convert src dst va).run P w = .ok u w ∧ R ρ v u := by
  have hempty : bytesOf ByteArray.empty = [] := rfl
  unfold evBS at h
  split at h
  case h_2 => cases h
  rename_i e hs hd
  split at h
  case h_3 => cases h
  · rename_i he
    injection h with h; subst h
    simp only [R] at ha; subst ha
    exact ⟨.string .empty, by simp [convert, run_underlying hs, run_underlying hd, run_underlying he, Conv.bytesToString], by simp only [R]; exact ⟨_, rfl, hempty⟩⟩
  · rename_i b i x ln cap z he
    cases hz : Nat.beq z 1 with
    | false => rw [hz] at h; cases h
    | true =>
      rw [hz] at h
      simp only [cond_true] at h
      have hz := Nat.eq_of_beq_eq_true hz
      subst hz
      simp only [R] at ha
      obtain ⟨I, ad, c, hI, hsi, hei, hc, rfl, had, _⟩ := ha
      rw [Nat.mul_one] at hei
      cases h0 : Nat.beq ln 0 with
      | true =>
        rw [h0] at h
        simp only [cond_true] at h
        injection h with h; subst h
        have h0 := Nat.eq_of_beq_eq_true h0
        subst h0
        have hl : (loadCells ad 0).run P w = .ok (([] : List Int).map (Value.int .u8)).toArray w := by simp [loadCells, loadCellsFrom]
        refine ⟨_, ?_, by simp only [R]; exact ⟨_, rfl, hempty⟩⟩
        have := run_bytesToString (P := P) w ad 0 c [] hl
        simpa [convert, run_underlying hs, run_underlying hd, run_underlying he] using this
      | false =>
        rw [h0] at h
        simp only [cond_false] at h
        have h0 := Nat.ne_of_beq_eq_false h0
        obtain ⟨rfl, _⟩ := had.resolve_right (by omega)
        split at h
        case h_2 => cases h
        rename_i l hl
        split at h
        case h_2 => cases h
        rename_i s hsb
        injection h with h; subst h
        obtain ⟨us, g1, g2, g3⟩ := readAt_ok (lim := i + ln) hr hI hsi (Nat.le_refl _) hei hl
        obtain ⟨g4, g5⟩ := bytesA_ok hsb g2
        have hload : (loadCells ⟨I.B, i + I.d - I.s, none⟩ ln).run P w = .ok ((s.map Int.ofNat).map (Value.int .u8)).toArray w := by
          rw [← g1, ← g4]
          exact run_loadCells us (fun k hk => g3 k (by omega))
        have := run_bytesToString (P := P) w ⟨I.B, i + I.d - I.s, none⟩ ln c (s.map Int.ofNat) hload
        refine ⟨_, by simpa [convert, run_underlying hs, run_underlying hd, run_underlying he] using this, ?_⟩
        simp only [R]
        exact ⟨_, rfl, by rw [bytesOf_foldl s _ g5, hempty]; rfl⟩

end Go.Ev

/- Functions without a body that a run comes to: the atomic operations, in one goroutine. -/
namespace Go.Ev
variable {P : Program} {ρ : Rho} {H : AHeap} {w : World}

inductive Xk where
  | same
  | none0
  | race
  | loadI (k : IntKind)
  | storeA
  | casI (k : IntKind)
  | addI (k : IntKind)

def Xk.sem : Xk → Array Value → Sem Value
  | .same => Extern.AbiNoEscape.same
  | .none0 => fun _ => pure (.tuple #[])
  | .race => fun args => do let _ ← Extern.Race.at_ args; pure (.tuple #[])
  | .loadI k => Extern.Atomic.loadT (.int k)
  | .storeA => Extern.Atomic.storeT
  | .casI k => Extern.Atomic.casT (.int k)
  | .addI k => Extern.Atomic.update (Op.intArith .add) k true

section
open Extern.Atomic
theorem loadT_def (t : Extern.Atomic.T) (a : Value) : loadT t #[a] = (do read t (← asAddr a)) := rfl
theorem storeT_def (a v : Value) : storeT #[a, v] = (do store (← asAddr a) v .atomic; pure none_) := rfl
theorem casT_def (t : Extern.Atomic.T) (addr old new : Value) : casT t #[addr, old, new] = (do
    let a ← asAddr addr
    if ← touchesFrozen a then unsupported (.unsafePointer "a write to bytes that a string shares")
    let eq ← match t, ← read t a, old with
      | _, .int _ x, .int _ y => pure (x == y)
      | .ptr, .pointer x, .pointer y => samePointer x y
      | .int _, .pointer (some _), .int _ 0 | .int _, .int _ 0, .pointer (some _) => pure false
      | .int _, .pointer (some _), _ | .int _, _, .pointer (some _) => unsupported .addressObserved
      | _, _, _ => stuck "atomic.CompareAndSwap: old is no T"
    if eq then store a new .atomic
    pure (.bool eq)) := rfl
theorem update_def (op : IntKind → Int → Int → Sem Value) (k : IntKind) (r : Bool) (addr y : Value) : update op k r #[addr, y] = (do
    let a ← asAddr addr
    let old ← read (.int k) a
    let new ← op k (← asInt old) (← asInt y)
    store a new .atomic
    pure (if r then new else old)) := rfl
end

def kx : IntKind → Nat
  | .i8 => 0 | .i16 => 1 | .i32 => 2 | .i64 => 3 | .u8 => 4 | .u16 => 5 | .u32 => 6 | .u64 => 7
theorem kx_inj {a b : IntKind} (h : Nat.beq (kx a) (kx b) = true) : a = b := by
  have := Nat.eq_of_beq_eq_true h
  cases a <;> cases b <;> first | rfl | (exact absurd this (by decide))

noncomputable def rd1 (H : AHeap) (k : IntKind) (b i x lim : Nat) : Option Int :=
  bif Nat.blt i lim then (match readAt H b i x 1 with | some [.int k' n] => (bif Nat.beq (kx k') (kx k) then some n else none) | _ => none) else none
noncomputable def put1 (H : AHeap) (b i x lim : Nat) (v : AV) : Option AHeap :=
  bif Nat.blt i lim && oneA v then putCells H b i x [v] else none

theorem rd1_ok (hr : HRel ρ H w) {k : IntKind} {b i x lim : Nat} {n : Int} {I : Inc} (hI : ρ b x = some I) (hs : I.s ≤ i + I.d) (hl : lim ≤ I.e) (h : rd1 H k b i x lim = some n) :
    w.cell? ⟨I.B, i + I.d - I.s, none⟩ = some (.int k n) ∧ i < lim := by
  unfold rd1 at h
  cases hb : Nat.blt i lim with
  | false => rw [hb] at h; cases h
  | true =>
    rw [hb] at h
    simp only [cond_true] at h
    have hlt : i < lim := by simpa [Nat.blt_eq] using hb
    split at h
    case h_2 => cases h
    rename_i k' m hra
    cases hk : Nat.beq (kx k') (kx k) with
    | false => rw [hk] at h; cases h
    | true =>
      rw [hk] at h
      simp only [cond_true] at h
      injection h with h; subst h
      obtain ⟨us, g1, g2, g3⟩ := readAt_ok hr hI hs (by omega) hl hra
      obtain ⟨u, us', rfl, g4, g5⟩ := RL_cons.1 g2
      simp only [R] at g4
      subst g4
      have := g3 0 (by omega)
      rw [kx_inj hk] at this
      exact ⟨by simpa using this, hlt⟩

theorem run_store_of_cells {B o : Nat} {v : Value} {w' : World} {m : Mode} (hv : v.oneCell' = true) {c0 : Value} (hc : w.cell? ⟨B, o, none⟩ = some c0) (h : (storeCells ⟨B, o, none⟩ [v]).run P w = .ok () w') :
    (store ⟨B, o, none⟩ v m).run P w = .ok () w' := by
  simp only [storeCells, addr_add, Nat.add_zero, Sem.run_bind] at h
  rw [run_store P w _ v _ hv, hc] at h ⊢
  simp only at h ⊢
  split at h
  · cases h
  · rename_i hf
    rw [if_neg hf]
    simpa using h

theorem put1_ok (hr : HRel ρ H w) {b i x lim : Nat} {v : AV} {u : Value} {I : Inc} {H' : AHeap} (hI : ρ b x = some I) (hs : I.s ≤ i + I.d) (hl : lim ≤ I.e) (hv : R ρ v u) (h : put1 H b i x lim v = some H') (m : Mode) :
    ∃ w', (store ⟨I.B, i + I.d - I.s, none⟩ u m).run P w = .ok () w' ∧ Step ρ H w ρ H' w' := by
  unfold put1 at h
  cases hb : Nat.blt i lim && oneA v with
  | false => rw [hb] at h; cases h
  | true =>
    rw [hb] at h
    simp only [cond_true] at h
    simp only [Bool.and_eq_true] at hb
    have hlt : i < lim := by simpa [Nat.blt_eq] using hb.1
    have hone := oneA_oneCell hb.2 hv
    obtain ⟨w', h1, h2⟩ := putCells_ok (P := P) (us := [u]) hr hI h hs (by simp; omega) (by rw [RL_cons_cons]; exact ⟨hv, by simp [RL]⟩) (fun v hv => by simp at hv; subst hv; exact hone)
    have hcell : ∃ c0, w.cell? ⟨I.B, i + I.d - I.s, none⟩ = some c0 := by
      unfold putCells at h
      split at h
      case h_2 => cases h
      rename_i hg
      obtain ⟨_, _, _, c, el, fz, h4, h5, _⟩ := hr.blk b x I _ hI hg
      obtain ⟨_, _, hen⟩ := hr.lt b x I hI
      have : i + I.d - I.s < c.size := by omega
      exact ⟨c[i + I.d - I.s], by simp [World.cell?, h4, this]⟩
    obtain ⟨c0, hc0⟩ := hcell
    exact ⟨w', run_store_of_cells hone hc0 h1, h2⟩

noncomputable def isFree (H : AHeap) (b : Nat) : Bool :=
  match H.blks.get b with
  | some (.cells false _ _ _) => true
  | _ => false
theorem isFree_ok (hr : HRel ρ H w) {b x : Nat} {I : Inc} (hI : ρ b x = some I) (h : isFree H b = true) (o : Nat) : (Extern.Atomic.touchesFrozen ⟨I.B, o, none⟩).run P w = .ok false w := by
  unfold isFree at h
  split at h
  case h_2 => cases h
  rename_i hg
  obtain ⟨_, _, _, c, el, fz, h4, h5, h6, _⟩ := hr.blk b x I _ hI hg
  have hfz := h6.1 rfl
  subst hfz
  unfold Extern.Atomic.touchesFrozen
  simp [run_viewAt_cells h4, World.frozen?, h4]

noncomputable def evX (k : Xk) (args : List AV) (H : AHeap) : Option (AV × AHeap) :=
  match k, args with
  | .same, [a] => some (a, H)
  | .none0, _ => some (.tuple [], H)
  | .race, [.ptr _ _ _ _] => some (.tuple [], H)
  | .loadI k, [.ptr b i x lim] => (match rd1 H k b i x lim with | some n => some (.int k n, H) | none => none)
  | .storeA, [.ptr b i x lim, v] => (match put1 H b i x lim v with | some H' => some (.tuple [], H') | none => none)
  | .casI k, [.ptr b i x lim, .int _ o, v] =>
    (match rd1 H k b i x lim with
    | some n => bif isFree H b then (bif eqI n o then (match put1 H b i x lim v with | some H' => some (.bool true, H') | none => none) else some (.bool false, H)) else none
    | none => none)
  | .addI k, [.ptr b i x lim, .int _ y] =>
    (match rd1 H k b i x lim with
    | some n => forceI (wrapA k (n + y)) fun m => (match put1 H b i x lim (.int k m) with | some H' => some (.int k m, H') | none => none)
    | none => none)
  | _, _ => none

theorem evX_ok (hr : HRel ρ H w) {k : Xk} {args : List AV} {vs : Array Value} {v : AV} {H' : AHeap} (hl : RL ρ args vs.toList) (h : evX k args H = some (v, H')) :
    ∃ u w', (k.sem vs).run P w = .ok u w' ∧ R ρ v u ∧ Step ρ H w ρ H' w' := by
  have one : ∀ {a : AV}, RL ρ [a] vs.toList → ∃ u, vs = #[u] ∧ R ρ a u := by
    intro a h
    obtain ⟨u, us, h1, h2, h3⟩ := RL_cons.1 h
    rw [RL_nil.1 h3] at h1
    exact ⟨u, Array.ext' (by simpa using h1), h2⟩
  have two : ∀ {a b : AV}, RL ρ [a, b] vs.toList → ∃ u u', vs = #[u, u'] ∧ R ρ a u ∧ R ρ b u' := by
    intro a b h
    obtain ⟨u, us, h1, h2, h3⟩ := RL_cons.1 h
    obtain ⟨u', us', h4, h5, h6⟩ := RL_cons.1 h3
    rw [RL_nil.1 h6] at h4
    rw [h4] at h1
    exact ⟨u, u', Array.ext' (by simpa using h1), h2, h5⟩
  have three : ∀ {a b c : AV}, RL ρ [a, b, c] vs.toList → ∃ u u' u'', vs = #[u, u', u''] ∧ R ρ a u ∧ R ρ b u' ∧ R ρ c u'' := by
    intro a b c h
    obtain ⟨u, us, h1, h2, h3⟩ := RL_cons.1 h
    obtain ⟨u', us', h4, h5, h6⟩ := RL_cons.1 h3
    obtain ⟨u'', us'', h7, h8, h9⟩ := RL_cons.1 h6
    rw [RL_nil.1 h9] at h7
    rw [h7] at h4
    rw [h4] at h1
    exact ⟨u, u', u'', Array.ext' (by simpa using h1), h2, h5, h8⟩
  unfold evX at h
  split at h
  · injection h with h
    simp only [Prod.mk.injEq] at h
    obtain ⟨rfl, rfl⟩ := h
    obtain ⟨u, rfl, hu⟩ := one hl
    exact ⟨u, w, rfl, hu, Step.refl hr⟩
  · injection h with h
    simp only [Prod.mk.injEq] at h
    obtain ⟨rfl, rfl⟩ := h
    exact ⟨.tuple #[], w, rfl, by simp [R, RL], Step.refl hr⟩
  · injection h with h
    simp only [Prod.mk.injEq] at h
    obtain ⟨rfl, rfl⟩ := h
    obtain ⟨u, rfl, hu⟩ := one hl
    simp only [R] at hu
    obtain ⟨I, hI, hs, _, hle, rfl⟩ := hu
    exact ⟨.tuple #[], w, rfl, by simp [R, RL], Step.refl hr⟩
  · rename_i k b i x lim
    split at h
    case h_2 => cases h
    rename_i n hn
    injection h with h
    simp only [Prod.mk.injEq] at h
    obtain ⟨rfl, rfl⟩ := h
    obtain ⟨u, rfl, hu⟩ := one hl
    simp only [R] at hu
    obtain ⟨I, hI, hs, _, hle, rfl⟩ := hu
    obtain ⟨hc, _⟩ := rd1_ok hr hI hs hle hn
    refine ⟨.int k n, w, ?_, by simp only [R], Step.refl hr⟩
    simp only [Xk.sem]
    rw [loadT_def]
    simp [Extern.Atomic.read, asAddr, hc]
  · rename_i b i x lim a
    split at h
    case h_2 => cases h
    rename_i H2 hp
    injection h with h
    simp only [Prod.mk.injEq] at h
    obtain ⟨rfl, rfl⟩ := h
    obtain ⟨u, u', rfl, hu, hu'⟩ := two hl
    simp only [R] at hu
    obtain ⟨I, hI, hs, _, hle, rfl⟩ := hu
    obtain ⟨w', h1, h2⟩ := put1_ok (P := P) hr hI hs hle hu' hp .atomic
    refine ⟨.tuple #[], w', ?_, by simp [R, RL], h2⟩
    simp only [Xk.sem]
    rw [storeT_def]
    simp [asAddr, h1, Extern.Atomic.none_]
  · rename_i k b i x lim k1 o a
    split at h
    case h_2 => cases h
    rename_i n hn
    cases hf : isFree H b with
    | false => rw [hf] at h; cases h
    | true =>
      rw [hf] at h
      simp only [cond_true] at h
      obtain ⟨u, u', u'', rfl, hu, hu', hu''⟩ := three hl
      simp only [R] at hu hu'
      obtain ⟨I, hI, hs, _, hle, rfl⟩ := hu
      subst hu'
      obtain ⟨hc, _⟩ := rd1_ok hr hI hs hle hn
      have ht := isFree_ok (P := P) hr hI hf (i + I.d - I.s)
      cases he : eqI n o with
      | true =>
        rw [he] at h
        simp only [cond_true] at h
        split at h
        case h_2 => cases h
        rename_i H2 hp
        injection h with h
        simp only [Prod.mk.injEq] at h
        obtain ⟨rfl, rfl⟩ := h
        obtain ⟨w', h1, h2⟩ := put1_ok (P := P) hr hI hs hle hu'' hp .atomic
        refine ⟨.bool true, w', ?_, by simp only [R], h2⟩
        rw [eqI_eq] at he
        have he' : n = o := by simpa using he
        subst he'
        simp only [Xk.sem]
        rw [casT_def]
        simp [Extern.Atomic.read, asAddr, ht, hc, h1]
      | false =>
        rw [he] at h
        simp only [cond_false] at h
        injection h with h
        simp only [Prod.mk.injEq] at h
        obtain ⟨rfl, rfl⟩ := h
        refine ⟨.bool false, w, ?_, by simp only [R], Step.refl hr⟩
        rw [eqI_eq] at he
        have he' : ¬ n = o := by simpa using he
        simp only [Xk.sem]
        rw [casT_def]
        simp [Extern.Atomic.read, asAddr, ht, hc, he']
  · rename_i k b i x lim k1 y
    split at h
    case h_2 => cases h
    rename_i n hn
    rw [forceI_eq, wrapA_eq] at h
    split at h
    case h_2 => cases h
    rename_i H2 hp
    injection h with h
    simp only [Prod.mk.injEq] at h
    obtain ⟨rfl, rfl⟩ := h
    obtain ⟨u, u', rfl, hu, hu'⟩ := two hl
    simp only [R] at hu hu'
    obtain ⟨I, hI, hs, _, hle, rfl⟩ := hu
    subst hu'
    obtain ⟨hc, _⟩ := rd1_ok hr hI hs hle hn
    obtain ⟨w', h1, h2⟩ := put1_ok (P := P) (u := .int k (k.wrap (n + y))) hr hI hs hle (by simp only [R]) hp .atomic
    refine ⟨.int k (k.wrap (n + y)), w', ?_, by simp only [R], h2⟩
    simp only [Xk.sem]
    rw [update_def]
    simp [Extern.Atomic.read, Op.intArith, asAddr, asInt, asIntOf, hc, h1]
  · cases h

end Go.Ev

/- Every operation, by its kind: what it reads, what it makes, what it does. -/
namespace Go.Ev
variable {P : Program} {ρ : Rho} {H : AHeap} {w : World}

inductive Kd where
  | rd | al | ef

def kindOf : Op → Kd
  | .move _ | .assign _ | .pick .. | .build .. | .load .. | .nilCheck _ | .binOp .. | .unOp .. | .convert .. | .makeInterface .. | .makeFunc .. | .slice ..
  | .fieldAddr .. | .field .. | .indexAddr .. | .index .. | .lookup .. | .extract .. => .rd
  | .alloc _ | .box .. | .buildSlice .. | .makeMap .. | .makeSlice .. => .al
  | .call c => (match c.callee with | .builtin .len => .rd | .builtin .cap => .rd | .builtin .max => .rd | .builtin .min => .rd | .builtin .unsafeSliceData => .rd | _ => .ef)
  | _ => .ef

noncomputable def mapO (e : Operand → AV) (l : List Operand) : List AV := List.rec (motive := fun _ => List AV) [] (fun x _ ih => e x :: ih) l
noncomputable def mapP (e : Operand → AV) (l : List (Nat × Operand)) : List (Nat × AV) := List.rec (motive := fun _ => List (Nat × AV)) [] (fun p _ ih => (p.1, e p.2) :: ih) l

theorem mapO_ok {e : Operand → AV} {ec : Operand → Value} (h : ∀ x, R ρ (e x) (ec x)) : ∀ l : List Operand, RL ρ (mapO e l) (l.map ec)
  | [] => by show RL ρ [] []; simp [RL]
  | x :: l => by show RL ρ (e x :: mapO e l) (ec x :: l.map ec); rw [RL_cons_cons]; exact ⟨h x, mapO_ok h l⟩
theorem mapP_ok {e : Operand → AV} {ec : Operand → Value} (h : ∀ x, R ρ (e x) (ec x)) : ∀ l : List (Nat × Operand), RP ρ (mapP e l) (l.map fun p => (p.1, ec p.2))
  | [] => rfl
  | p :: l => ⟨(p.1, ec p.2), _, rfl, rfl, h p.2, mapP_ok h l⟩

def evLen (P : Program) (H : AHeap) (t : TypeId) (a : AV) : Option AV := none

noncomputable def evLenB (P : Program) (H : AHeap) (t : TypeId) (a : AV) : Option AV :=
  match P.underlying t with
  | some d =>
    match d, a with
    | .string, .str s => some (.int .i64 (.ofNat (len s)))
    | .array n _, _ => some (.int .i64 (.ofNat n))
    | .slice _, .nilslice => some (.int .i64 (.ofNat 0))
    | .slice _, .slice _ _ _ n _ _ => some (.int .i64 (.ofNat n))
    | .map _ _, m => (match mapOf H m with | some es => some (.int .i64 (.ofNat (len es))) | none => none)
    | _, _ => none
  | none => none

theorem ESRel.length : ∀ {es : List Ent} {ms : List MapEntry}, ESRel ρ es ms → es.length = ms.length
  | [], ms, h => by cases h; rfl
  | _ :: es, _, ⟨m, ms, h1, _, h3⟩ => by subst h1; simp [ESRel.length h3]

theorem evLenB_ok (hr : HRel ρ H w) {t ty : TypeId} {a v : AV} {va : Value} (ats : Array TypeId) (hat : ats[0]? = some t) (ha : R ρ a va) (h : evLenB P H t a = some v) :
    ∃ u, (Builtin.len_ ats ty #[va]).run P w = .ok u w ∧ R ρ v u := by
  unfold evLenB at h
  split at h
  case h_2 => cases h
  rename_i d hd
  split at h
  · injection h with h; subst h
    simp only [R] at ha
    obtain ⟨ba, rfl, hb⟩ := ha
    refine ⟨.int .i64 ba.size, by simp [Builtin.len_, hat, run_underlying hd, goInt], ?_⟩
    simp only [R, len_eq]
    rw [← hb, bytesOf_size]; rfl
  · rename_i n el
    injection h with h; subst h
    refine ⟨.int .i64 (Int.ofNat n), ?_, by simp only [R]⟩
    simp [Builtin.len_, hat, run_underlying hd, goInt]
  · injection h with h; subst h
    simp only [R] at ha; subst ha
    refine ⟨.int .i64 (Int.ofNat 0), ?_, by simp only [R]⟩
    simp [Builtin.len_, hat, run_underlying hd, goInt]
  · rename_i n _ _
    injection h with h; subst h
    simp only [R] at ha
    obtain ⟨I, a, c, _, _, _, _, rfl, _⟩ := ha
    refine ⟨.int .i64 (Int.ofNat n), ?_, by simp only [R]⟩
    simp [Builtin.len_, hat, run_underlying hd, goInt]
  · split at h
    case h_2 => cases h
    rename_i es hes
    injection h with h; subst h
    obtain ⟨ms, h1, h2⟩ := mapOf_ok hr ha hes
    have hl := ESRel.length h1
    refine ⟨.int .i64 (ms.size : Nat), ?_, by simp only [R, len_eq]; rw [hl]; simp⟩
    rcases h2 with ⟨rfl, rfl⟩ | ⟨r, c, rfl, hw⟩
    · simp [Builtin.len_, hat, run_underlying hd, goInt]
    · simp [Builtin.len_, hat, run_underlying hd, goInt, run_getObj_map hw]
  · cases h

noncomputable def evMM (mx : Bool) : AV → AV → Option AV
  | .int k x, .int _ y => some (.int k (bif (bif mx then ltI x y else ltI y x) then y else x))
  | _, _ => none
noncomputable def evMMs (mx : Bool) (l : List AV) : AV → Option AV :=
  List.rec (motive := fun _ => AV → Option AV) (fun a => some a) (fun b _ ih a => match evMM mx a b with | some c => ih c | none => none) l

theorem evMM_ok {mx : Bool} {a b v : AV} {va vb : Value} (ha : R ρ a va) (hb : R ρ b vb) (h : evMM mx a b = some v) :
    ∃ u, ((if mx then Builtin.max2 else Builtin.min2) va vb).run P w = .ok u w ∧ R ρ v u := by
  unfold evMM at h
  split at h
  case h_2 => cases h
  rename_i k x k' y
  injection h with h; subst h
  simp only [R] at ha hb; subst ha hb
  cases mx
  · refine ⟨.int k (if y < x then y else x), by simp [Builtin.min2], ?_⟩
    simp only [R, ltI_eq, cond_false]
    by_cases hh : y < x <;> simp [hh]
  · refine ⟨.int k (if y > x then y else x), by simp [Builtin.max2], ?_⟩
    simp only [R, ltI_eq, cond_true]
    by_cases hh : x < y <;> simp [hh]

theorem evMMs_ok {mx : Bool} : ∀ {l : List AV} {vl : List Value} {a v : AV} {va : Value}, R ρ a va → RL ρ l vl → evMMs mx l a = some v →
    ∃ u, (vl.foldlM (if mx then Builtin.max2 else Builtin.min2) va).run P w = .ok u w ∧ R ρ v u
  | [], vl, a, v, va, ha, hl, h => by
    injection h with h; subst h
    rw [RL_nil.1 hl]
    exact ⟨va, by simp, ha⟩
  | b :: l, vl, a, v, va, ha, hl, h => by
    obtain ⟨vb, vl', rfl, h1, h2⟩ := RL_cons.1 hl
    replace h : (match evMM mx a b with | some c => evMMs mx l c | none => none) = some v := h
    split at h
    case h_2 => cases h
    rename_i c hc
    obtain ⟨u, g1, g2⟩ := evMM_ok (P := P) (w := w) ha h1 hc
    obtain ⟨u', g3, g4⟩ := evMMs_ok (l := l) g2 h2 h
    refine ⟨u', ?_, g4⟩
    rw [List.foldlM_cons, Sem.run_bind, g1, Result.andThen_ok, g3]

noncomputable def evCap : AV → Option AV
  | .nilslice => some (.int .i64 (.ofNat 0))
  | .slice _ _ _ _ (some c) _ => some (.int .i64 (.ofNat c))
  | _ => none

/-! Two nil values of an interface type. -/
def isC : Operand → Bool
  | .const _ => true
  | _ => false
def noMeth (P : Program) (t : TypeId) : Bool :=
  match P.underlying t with
  | some (.interface ms) => ms.isEmpty
  | _ => false
noncomputable def evNN (P : Program) (H : AHeap) (op : BinOp) (t : TypeId) (x y : Operand) (a b : AV) : Option AV :=
  match a, b with
  | .nilIface, .nilIface =>
    bif isC x || isC y || noMeth P t then
      match evEq P H 30 t .nilIface .nilIface with
      | some r => (match op with | .eql => some (.bool r) | .neq => some (.bool (!r)) | _ => none)
      | none => none
    else none
  | _, _ => none

theorem run_eqGuard_nil {op : BinOp} {t : TypeId} {x y : Operand} (h : (isC x || isC y || noMeth P t) = true) : (eqGuard op t x y .nilIface .nilIface).run P w = .ok () w := by
  have hg : noMeth P t = true → (Op.eqGuardIn Op.maxDepth t .nilIface .nilIface).run P w = .ok false w := by
    intro hm
    unfold noMeth at hm
    split at hm
    case h_2 => cases hm
    rename_i ms hms
    obtain ⟨d, hd⟩ : ∃ d, Op.maxDepth = d + 1 := ⟨_, rfl⟩
    rw [hd]
    unfold Op.eqGuardIn
    simp [run_underlying hms, hm]
  unfold eqGuard
  cases op <;> simp only [Bool.not_false, Bool.not_true, if_true, Bool.false_eq_true, if_false] <;> first
    | (simp; done)
    | (cases x <;> cases y <;> first
        | (simp; done)
        | (simp only [isC, Bool.false_or, Bool.or_false] at h; simp [hg h]; done)
        | (simp [isC] at h; simp [hg h]; done)
        | skip)

theorem evNN_ok (hr : HRel ρ H w) {op : BinOp} {t : TypeId} {x y : Operand} {a b v : AV} {va vb : Value} (ha : R ρ a va) (hb : R ρ b vb) (h : evNN P H op t x y a b = some v) :
    ∃ u, (do eqGuard op t x y va vb; binOp op t va vb : Sem Value).run P w = .ok u w ∧ R ρ v u := by
  unfold evNN at h
  split at h
  case h_2 => cases h
  simp only [R] at ha hb
  subst ha hb
  cases hc : isC x || isC y || noMeth P t with
  | false => rw [hc] at h; cases h
  | true =>
    rw [hc] at h
    simp only [cond_true] at h
    split at h
    case h_2 => cases h
    rename_i r he
    have h3 := evEq_ok (P := P) hr 30 t _ _ .nilIface .nilIface r (by simp [R]) (by simp [R]) he Op.maxDepth (by decide)
    simp only [Sem.run_bind, run_eqGuard_nil hc, Result.andThen_ok]
    split at h
    · injection h with h; subst h
      exact ⟨_, run_binOp_eql rfl h3, by simp only [R]⟩
    · injection h with h; subst h
      exact ⟨_, run_binOp_neq rfl h3, by simp only [R]⟩
    · cases h

noncomputable def evRd (P : Program) (H : AHeap) (e : Operand → AV) (o : Op) : Option AV :=
  match o with
  | .move x => some (e x)
  | .assign x => some (e x)
  | .pick c a b => (match e c with | .bool t => some (bif t then e a else e b) | _ => none)
  | .build t ps => evBuild P t (mapP e ps.toList)
  | .load t a => evLoad P H t (e a)
  | .nilCheck x => evNil (e x)
  | .binOp op t x y _ => (match evBin P H op t (e x) (e y) with | some v => some v | none => evNN P H op t x y (e x) (e y))
  | .unOp op _ x => evUnI op (e x)
  | .convert s d x => (match evConv P s d (e x) with | some v => some v | none => (match evBS P H s d (e x) with | some v => some v | none => evConvP P H s d (e x)))
  | .makeInterface t x => evMkIface P t (e x)
  | .makeFunc fn f c => some (.func fn (mapO e f.toList) (mapO e c.toList))
  | .slice t x lo hi mx => evSlice P t (lo.map e) (hi.map e) (mx.map e) (e x)
  | .fieldAddr s x f => evFieldAddr P s f (e x)
  | .field s x f => evField P s f (e x)
  | .indexAddr t x i => evIndexAddr P t (e x) (e i)
  | .index t x i => evIndex P t (e x) (e i)
  | .lookup t x k ok => evLookup P H t (e x) (e k) ok
  | .extract x i => evExtract (e x) i
  | .call c =>
    match c.callee with
    | .builtin .len => (match c.argTypes[0]?, c.args.toList with | some t, [x] => evLenB P H t (e x) | _, _ => none)
    | .builtin .max => (match c.args.toList with | x :: xs => evMMs true (mapO e xs) (e x) | [] => none)
    | .builtin .min => (match c.args.toList with | x :: xs => evMMs false (mapO e xs) (e x) | [] => none)
    | .builtin .unsafeSliceData => (match c.args.toList with | [x] => evUData (e x) | _ => none)
    | _ => none
  | _ => none

theorem RO_map {e : Operand → AV} {ec : Operand → Value} (h : ∀ x, R ρ (e x) (ec x)) (o : Option Operand) : RO ρ (o.map e) (o.map ec) := by
  cases o with
  | none => rfl
  | some x => exact ⟨ec x, rfl, h x⟩

theorem evRd_ok (hr : HRel ρ H w) {e : Operand → AV} {ec : Operand → Value} (hx : ∀ x, R ρ (e x) (ec x)) {o : Oper} {v : AV} (h : evRd P H e o.op = some v) :
    ∃ u, (execOp ec o).run P w = .ok (.value u) w ∧ R ρ v u := by
  have lift : ∀ (s : Sem Value), (∃ u, s.run P w = .ok u w ∧ R ρ v u) → ∃ u, (do pure (Next.value (← s)) : Sem Next).run P w = .ok (.value u) w ∧ R ρ v u := by
    rintro s ⟨u, h1, h2⟩
    exact ⟨u, by simp [h1], h2⟩
  unfold evRd at h
  split at h
  · rename_i x ho
    injection h with h; subst h
    exact ⟨ec x, by simp [execOp, ho], hx x⟩
  · rename_i x ho
    injection h with h; subst h
    exact ⟨ec x, by simp [execOp, ho], hx x⟩
  · rename_i c a b ho
    split at h
    case h_2 => cases h
    rename_i t hc
    injection h with h; subst h
    have hcc := hx c
    rw [hc] at hcc
    simp only [R] at hcc
    refine ⟨if t then ec a else ec b, by simp [execOp, ho, hcc, asBool], ?_⟩
    cases t
    · exact hx b
    · exact hx a
  · rename_i t ps ho
    obtain ⟨u, h1, h2⟩ := evBuild_ok (w := w) (vparts := ps.map fun p => (p.1, ec p.2)) (by rw [Array.toList_map]; exact mapP_ok hx ps.toList) h
    exact ⟨u, by simp [execOp, ho, h1], h2⟩
  · rename_i t a ho
    obtain ⟨u, h1, h2⟩ := evLoad_ok hr (hx a) h
    exact ⟨u, by simp [execOp, ho, h1], h2⟩
  · rename_i x ho
    obtain ⟨h1, h2⟩ := evNil_ok (P := P) (w := w) (hx x) h x ec rfl o ho
    exact ⟨_, h1, h2⟩
  · rename_i op t x y yt ho
    obtain ⟨u, h1, h2⟩ : ∃ u, (do eqGuard op t x y (ec x) (ec y); binOp op t (ec x) (ec y) : Sem Value).run P w = .ok u w ∧ R ρ v u := by
      split at h
      · rename_i v' hv'
        injection h with h; subst h
        exact evBin_ok hr (hx x) (hx y) hv' x y
      · exact evNN_ok hr (hx x) (hx y) h
    refine ⟨u, ?_, h2⟩
    simp only [execOp, ho]
    rw [Sem.run_bind, h1]; rfl
  · rename_i op t x ho
    obtain ⟨u, h1, h2⟩ := evUnI_ok (P := P) (w := w) (hx x) h
    exact ⟨u, by simp [execOp, ho, h1], h2⟩
  · rename_i s d x ho
    obtain ⟨u, h1, h2⟩ : ∃ u, (convert s d (ec x)).run P w = .ok u w ∧ R ρ v u := by
      split at h
      · rename_i v' hv'
        injection h with h; subst h
        exact evConv_ok (P := P) (w := w) (hx x) hv'
      · split at h
        · rename_i v' hv'
          injection h with h; subst h
          exact evBS_ok hr (hx x) hv'
        · exact evConvP_ok hr (hx x) h
    exact ⟨u, by simp [execOp, ho, h1], h2⟩
  · rename_i t x ho
    obtain ⟨u, h1, h2⟩ := evMkIface_ok (P := P) (w := w) (hx x) h
    exact ⟨u, by simp [execOp, ho, h1], h2⟩
  · rename_i fn f c ho
    injection h with h; subst h
    refine ⟨.func fn (f.map ec) (c.map ec), by simp [execOp, ho, Instr.makeFunc], ?_⟩
    simp only [R]
    exact ⟨_, _, rfl, by rw [Array.toList_map]; exact mapO_ok hx _, by rw [Array.toList_map]; exact mapO_ok hx _⟩
  · rename_i t x lo hi mx ho
    obtain ⟨u, h1, h2⟩ := evSlice_ok hr (RO_map hx lo) (RO_map hx hi) (RO_map hx mx) (hx x) h
    exact ⟨u, by simp [execOp, ho, h1], h2⟩
  · rename_i s x f ho
    obtain ⟨u, h1, h2⟩ := evFieldAddr_ok (P := P) (w := w) (hx x) h
    exact ⟨u, by simp [execOp, ho, h1], h2⟩
  · rename_i s x f ho
    obtain ⟨u, h1, h2⟩ := evField_ok (P := P) (w := w) (hx x) h
    exact ⟨u, by simp [execOp, ho, h1], h2⟩
  · rename_i t x i ho
    obtain ⟨u, h1, h2⟩ := evIndexAddr_ok (P := P) (w := w) (hx x) (hx i) h
    exact ⟨u, by simp [execOp, ho, h1], h2⟩
  · rename_i t x i ho
    obtain ⟨u, h1, h2⟩ := evIndex_ok (P := P) (w := w) (hx x) (hx i) h
    exact ⟨u, by simp [execOp, ho, h1], h2⟩
  · rename_i t x k ok ho
    obtain ⟨u, h1, h2⟩ := evLookup_ok hr (hx x) (hx k) h
    exact ⟨u, by simp [execOp, ho, h1], h2⟩
  · rename_i x i ho
    obtain ⟨u, h1, h2⟩ := evExtract_ok (P := P) (w := w) (hx x) h
    exact ⟨u, by simp [execOp, ho, h1], h2⟩
  · rename_i c ho
    split at h
    · rename_i hcal
      split at h
      case h_2 => cases h
      rename_i t x hat hargs
      obtain ⟨u, h1, h2⟩ := evLenB_ok (ty := o.type) hr c.argTypes hat (hx x) h
      have hargs' : c.args = #[x] := by apply Array.ext'; simpa using hargs
      exact ⟨u, by simp [execOp, ho, resolve, hcal, invoke, builtin, hargs', h1], h2⟩
    · rename_i hcal
      split at h
      case h_2 => cases h
      rename_i x xs hargs
      obtain ⟨u, h1, h2⟩ := evMMs_ok (P := P) (w := w) (hx x) (mapO_ok hx xs) h
      have hargs' : (c.args.map ec).toList = ec x :: xs.map ec := by rw [Array.toList_map, hargs]; rfl
      have : (Builtin.max_ c.argTypes o.type (c.args.map ec)).run P w = .ok u w := by
        unfold Builtin.max_
        rw [hargs']
        simpa using h1
      exact ⟨u, by simp [execOp, ho, resolve, hcal, invoke, builtin, this], h2⟩
    · rename_i hcal
      split at h
      case h_2 => cases h
      rename_i x xs hargs
      obtain ⟨u, h1, h2⟩ := evMMs_ok (P := P) (w := w) (hx x) (mapO_ok hx xs) h
      have hargs' : (c.args.map ec).toList = ec x :: xs.map ec := by rw [Array.toList_map, hargs]; rfl
      have : (Builtin.min_ c.argTypes o.type (c.args.map ec)).run P w = .ok u w := by
        unfold Builtin.min_
        rw [hargs']
        simpa using h1
      exact ⟨u, by simp [execOp, ho, resolve, hcal, invoke, builtin, this], h2⟩
    · rename_i hcal
      split at h
      case h_2 => cases h
      rename_i x hargs
      have hargs' : c.args = #[x] := by apply Array.ext'; simpa using hargs
      obtain ⟨u, h1, h2⟩ := evUData_ok (P := P) (w := w) c.argTypes o.type (hx x) h
      exact ⟨u, by simp [execOp, ho, resolve, hcal, invoke, builtin, hargs', h1], h2⟩
    · cases h
  · cases h

noncomputable def evAl (P : Program) (e : Operand → AV) (o : Op) : Option Made :=
  match o with
  | .alloc t => evAllocOp P t
  | .box _ x => evBox (e x)
  | .buildSlice t n ps => evBuildSlice P t n (mapP e ps.toList)
  | .makeMap t r => evMakeMap P t (r.map e)
  | .makeSlice t l c => evMakeSlice P t (e l) (e c)
  | _ => none

theorem evAl_ok {e : Operand → AV} {ec : Operand → Value} (hx : ∀ x, R ρ (e x) (ec x)) {o : Oper} {m : Made} (h : evAl P e o.op = some m) :
    ∃ v o', (execOp ec o).run P w = .ok (.value v) (w.alloc o') ∧ NewOk P ρ w m.obj m.val m.n v o' := by
  unfold evAl at h
  split at h
  · rename_i t ho
    obtain ⟨v, o', h1, h2⟩ := evAllocOp_ok (ρ := ρ) (w := w) h
    exact ⟨v, o', by simp [execOp, ho, h1], h2⟩
  · rename_i t x ho
    obtain ⟨v, o', h1, h2⟩ := evBox_ok (P := P) (w := w) (t := t) (hx x) h
    exact ⟨v, o', by simp [execOp, ho, h1], h2⟩
  · rename_i t n ps ho
    obtain ⟨v, o', h1, h2⟩ := evBuildSlice_ok (w := w) (vparts := ps.map fun p => (p.1, ec p.2)) (by rw [Array.toList_map]; exact mapP_ok hx ps.toList) h
    exact ⟨v, o', by simp [execOp, ho, h1], h2⟩
  · rename_i t r ho
    obtain ⟨v, o', h1, h2⟩ := evMakeMap_ok (w := w) (RO_map hx r) h
    exact ⟨v, o', by simp [execOp, ho, h1], h2⟩
  · rename_i t l c ho
    obtain ⟨v, o', h1, h2⟩ := evMakeSlice_ok (w := w) (hx l) (hx c) h
    exact ⟨v, o', by simp [execOp, ho, h1], h2⟩
  · cases h

end Go.Ev

/- The operations that act; a region in the order of its text. -/
namespace Go.Ev
variable {P : Program} {ρ : Rho} {H : AHeap} {w : World}

/-- No function with a body bears the one name that the model takes aside. -/
def NoGo (P : Program) : Prop := ∀ (f : Nat) (fn : Func), P.funcs[f]? = some fn → fn.body.isSome = true → fn.name ≠ "runtime.NumGoroutine"

/-- What is asked of whoever calls: a function · a round of a loop over a function · a deferred function. -/
inductive Req where
  | fn (f : Nat)
  | round (k : Nat)
  | dfn (f : Nat)
  | ext (f : Nat)
  | inv (t : TypeId) (name : String)

abbrev CallF := Req → List AV → AHeap → Option (AV × AHeap)

/-- The fence that lets all in, in a round or not. -/
abbrev W (ro : Option Nat) : Fence := { Fence.wide with round := ro }

/-- What the evaluator says of a call, the model does. -/
structure CallOk (P : Program) (gl : Nat → Nat) (call : CallF) : Prop where
  fn : ∀ f args H v H', call (.fn f) args H = some (v, H') → (∃ fn, P.funcs[f]? = some fn ∧ fn.body.isSome = true) ∧
    ∀ (ρ : Rho) (w : World) (vs : Array Value), HRel ρ H w → GRel gl ρ → RL ρ args vs.toList →
      Calls P f vs w fun en w' => ∃ ρ' u, en = .returned u ∧ R ρ' v u ∧ Step ρ H w ρ' H' w'
  dfn : ∀ f args H v H', call (.dfn f) args H = some (v, H') → (∃ fn, P.funcs[f]? = some fn ∧ fn.body.isSome = true) ∧
    ∀ (ρ : Rho) (w : World) (vs : Array Value), HRel ρ H w → GRel gl ρ → RL ρ args vs.toList →
      ∀ n, CallsDIn (W none) n P f vs .returning w fun en u w' => u = .returning ∧ ∃ ρ' v', en = .returned v' ∧ Step ρ H w ρ' H' w'
  round : ∀ k args H v H', call (.round k) args H = some (v, H') →
    ∀ (ρ : Rho) (w : World) (vs : Array Value) (I : Inc), HRel ρ H w → GRel gl ρ → RL ρ args vs.toList → ρ k 0 = some I →
      ∃ r : Loop, w.heap[I.B]? = some (.loop r) ∧ vs.size = r.params.size ∧
        ∀ n, RoundIn (W none) n P I.B r.fn ((r.params.zip vs).foldl (fun tmps (t, a) => tmps.setIfInBounds t a) r.tmps) r.assign r.body w fun en w' => ∃ ρ' u, en = .returned u ∧ R ρ' v u ∧ Step ρ H w ρ' H' w'
  ext : ∀ f args H v H', call (.ext f) args H = some (v, H') → ∀ (ρ : Rho) (w : World) (vs : Array Value), HRel ρ H w → RL ρ args vs.toList →
    ∃ u w' ρ', (callFunc f vs).run P w = .ok (.value u) w' ∧ R ρ' v u ∧ Step ρ H w ρ' H' w'
  inv : ∀ t name args H v H', call (.inv t name) args H = some (v, H') → ∃ f, v = .func (.func f) [] [] ∧ ∀ (x : Value) (w : World), (method (P.types.size + Made.depth) t x name).run P w = .ok (f, x) w

section
variable {ro : Option Nat} {n : Nat} {o : Oper} {a : Act} {next : Act → World → Prop} {Q : Exit → Act → World → Prop}
theorem wpIn_value {u : Value} {w' : World} (hnd : ∀ c, o.op ≠ .defer c) (h : (execOp a.eval o).run P w = .ok (.value u) w') (hk : next (a.put o.dst u) w') : o.wpIn (W ro) n P a w next Q :=
  ⟨fun _ _ => trivial, by rw [Oper.semAt_eq _ _ _ hnd, h]; exact hk⟩
theorem wpIn_skp {w' : World} (hnd : ∀ c, o.op ≠ .defer c) (h : (execOp a.eval o).run P w = .ok .skip w') (hk : next (a.put o.dst undef) w') : o.wpIn (W ro) n P a w next Q :=
  ⟨fun _ _ => trivial, by rw [Oper.semAt_eq _ _ _ hnd, h]; exact hk⟩
theorem wpIn_enter {f : FuncId} {args : Array Value} {w' : World} {R : Value → World → Prop} (hnd : ∀ c, o.op ≠ .defer c) (h : (execOp a.eval o).run P w = .ok (.enter f args) w')
    (hc : Calls P f args w' fun en w'' => ∃ u, en = .returned u ∧ R u w'') (hk : ∀ u w'', R u w'' → next (a.put o.dst u) w'') : o.wpIn (W ro) n P a w next Q := by
  refine ⟨fun _ _ => trivial, ?_⟩
  rw [Oper.semAt_eq _ _ _ hnd, h]
  refine ⟨fun hd => (by cases hd), ?_⟩
  have hc2 : CallsIn Fence.wide (n - 1) P f args w' fun en w'' => ∃ u, en = .returned u ∧ R u w'' := callsIn_wide.2 hc
  refine CallsIn.mono (F := W ro) hc2 ?_
  rintro en w'' ⟨u, rfl, hR⟩
  exact hk u w'' hR
theorem wpIn_yield {l : Nat} {f : FuncId} {tmps : Array Value} {as bd : Code} {w' : World} {R : Value → World → Prop} (hnd : ∀ c, o.op ≠ .defer c) (h : (execOp a.eval o).run P w = .ok (.round l f tmps as bd) w')
    (hc : ∀ n, RoundIn (W none) n P l f tmps as bd w' fun en w'' => ∃ u, en = .returned u ∧ R u w'') (hk : ∀ u w'', R u w'' → next (a.put o.dst u) w'') : o.wpIn (W ro) n P a w next Q := by
  refine ⟨fun _ _ => trivial, ?_⟩
  rw [Oper.semAt_eq _ _ _ hnd, h]
  refine ⟨fun hd => (by cases hd), ?_⟩
  refine RoundIn.mono (F := W ro) (hc (n - 1)) ?_
  rintro en w'' ⟨u, rfl, hR⟩
  exact hk u w'' hR
end

noncomputable def evClear (P : Program) (H : AHeap) (t : TypeId) (a : AV) : Option AHeap :=
  match P.underlying t with
  | some d =>
    match a with
    | .map none => some H
    | .map (some b) => (match H.blks.get b with | some (.map _ c) => some ⟨H.next, H.blks.set b (.map [] c)⟩ | _ => none)
    | .nilslice => some H
    | .slice b i x ln _ z =>
      bif Nat.beq ln 0 then some H else
      match d with
      | .slice e =>
        match zeroA P e with
        | some z0 => bif knownA z0 && allOne (cellsOfA z0) && Nat.beq (len (cellsOfA z0)) z then putCells H b i x (repL (cellsOfA z0) ln) else none
        | none => none
      | _ => none
    | _ => none
  | none => none

theorem allOne_append : ∀ {a b : List AV}, allOne a = true → allOne b = true → allOne (a ++ b) = true
  | [], b, _, h => h
  | x :: a, b, h1, h2 => by
    obtain ⟨g1, g2⟩ := allOne_cons h1
    show Bool.rec (motive := fun _ => Bool) false (allOne (a ++ b)) (oneA x) = true
    rw [g1]; exact allOne_append g2 h2
theorem allOne_rep {zs : List AV} (h : allOne zs = true) : ∀ n, allOne (repL zs n) = true
  | 0 => rfl
  | n + 1 => by rw [repL_succ]; exact allOne_append h (allOne_rep h n)

theorem evClear_ok (hr : HRel ρ H w) {t : TypeId} {a : AV} {va : Value} {H' : AHeap} (ats : Array TypeId) (ty : TypeId) (hat : ats[0]? = some t) (ha : R ρ a va) (h : evClear P H t a = some H') :
    ∃ w', (Builtin.clear_ ats ty #[va]).run P w = .ok (.tuple #[]) w' ∧ Step ρ H w ρ H' w' := by
  unfold evClear at h
  split at h
  case h_2 => cases h
  rename_i d hd
  split at h
  · injection h with h; subst h
    simp only [R] at ha; subst ha
    exact ⟨w, by simp [Builtin.clear_, hat, run_underlying hd], Step.refl hr⟩
  · split at h
    case h_2 => cases h
    rename_i b _ es c hg
    injection h with h; subst h
    simp only [R] at ha
    obtain ⟨I, hI, rfl⟩ := ha
    obtain ⟨_, ms, h1, h2⟩ := hr.blk _ 0 I _ hI hg
    have he : ESRel ρ [] (#[] : Array MapEntry).toList := rfl
    obtain ⟨w2, h10, h11⟩ := setObj_map_step (P := P) (c' := c) hr hI hg he
    exact ⟨w2, by simp [Builtin.clear_, hat, run_underlying hd, run_getObj_map h1, h10], h11⟩
  · injection h with h; subst h
    simp only [R] at ha; subst ha
    exact ⟨w, by simp [Builtin.clear_, hat, run_underlying hd], Step.refl hr⟩
  · rename_i b i x ln cap z
    simp only [R] at ha
    obtain ⟨I, ad, c, hI, hs, he, hcap, rfl, had, _⟩ := ha
    cases hl0 : Nat.beq ln 0 with
    | true =>
      have hl0' := Nat.eq_of_beq_eq_true hl0
      subst hl0'
      simp only [hl0, cond_true] at h
      injection h with h; subst h
      exact ⟨w, by simp [Builtin.clear_, hat, run_underlying hd], Step.refl hr⟩
    | false =>
      have hl0' : ln ≠ 0 := Nat.ne_of_beq_eq_false hl0
      simp only [hl0, cond_false] at h
      split at h
      case h_2 => cases h
      rename_i e
      split at h
      case h_2 => cases h
      rename_i z0 hz
      cases hc : knownA z0 && allOne (cellsOfA z0) && Nat.beq (len (cellsOfA z0)) z with
      | false => simp [hc] at h
      | true =>
        simp only [hc, cond_true] at h
        simp only [Bool.and_eq_true] at hc
        obtain ⟨⟨hk, ho⟩, hzl⟩ := hc
        have hzl' := Nat.eq_of_beq_eq_true hzl
        rw [len_eq] at hzl'
        obtain ⟨vz, h1, h2⟩ := zeroA_ok (w := w) (ρ := ρ) hz
        have hzc := knownA_cells hk h2
        have hrep := rep_ok hzc ln
        obtain ⟨rfl, _⟩ := had.resolve_right (by omega)
        obtain ⟨w', h3, h4⟩ := putCells_ok (P := P) hr hI h hs (by rw [repL_length, hzl']; omega) hrep (allOne_ok (allOne_rep ho ln) hrep)
        refine ⟨w', ?_, h4⟩
        have h3' : (storeCells ⟨I.B, i + I.d - I.s, none⟩ (Builtin.zeroCells vz.cells ln).toList).run P w = .ok () w' := h3
        obtain ⟨k, rfl⟩ : ∃ k, ln = k + 1 := ⟨ln - 1, by omega⟩
        simp [Builtin.clear_, hat, run_underlying hd, h1, h3']
  · cases h

noncomputable def evGo (call : CallF) (g : Nat) (args : List AV) (H : AHeap) : Option (AV × AHeap) :=
  match call (.fn g) args H with
  | some r => some r
  | none => call (.ext g) args H

noncomputable def evEf (P : Program) (call : CallF) (H : AHeap) (e : Operand → AV) (o : Op) : Option (AV × AHeap) :=
  match o with
  | .store t a v => (match evStore P H t (e a) (e v) with | some H' => some (undefA, H') | none => none)
  | .mapUpdate t m k v => (match evMapUpdate P H t (e m) (e k) (e v) with | some H' => some (undefA, H') | none => none)
  | .insert t m k v => (match evMapUpdate P H t (e m) (e k) (e v) with | some H' => some (undefA, H') | none => none)
  | .call c =>
    match c.callee with
    | .builtin .append => (match c.argTypes.toList, c.args.toList with | [t, u], [s, x] => evAppend P H t u (e s) (e x) | _, _ => none)
    | .builtin .copy => (match c.argTypes[0]?, c.args.toList with | some t, [d, s] => evCopy P H t (e d) (e s) | _, _ => none)
    | .builtin .delete => (match c.argTypes[0]?, c.args.toList with | some t, [m, k] => (match evDelete P H t (e m) (e k) with | some H' => some (.tuple [], H') | none => none) | _, _ => none)
    | .builtin .clear => (match c.argTypes[0]?, c.args.toList with | some t, [m] => (match evClear P H t (e m) with | some H' => some (.tuple [], H') | none => none) | _, _ => none)
    | .builtin .unsafeString => (match c.argTypes.toList, c.args.toList with | [t, _], [p, n] => evUStr P H t (e p) (e n) | _, _ => none)
    | .value f => (match e f with | .func (.func g) first cap => evGo call g (catV first (catV (mapO e c.args.toList) cap)) H | .yield k => call (.round k) (mapO e c.args.toList) H | _ => none)
    | .invoke r name => (match e r with | .iface t x => (match call (.inv t name) [] H with | some (.func (.func g) [] [], _) => evGo call g (x :: mapO e c.args.toList) H | _ => none) | _ => none)
    | _ => none
  | _ => none

theorem run_callFunc (hn : NoGo P) {f : Nat} {fn : Func} (hf : P.funcs[f]? = some fn) (hb : fn.body.isSome = true) (args : Array Value) : (callFunc f args).run P w = .ok (.enter f args) w := by
  have h1 := hn f fn hf hb
  have h2 : fn.body.isNone = false := by cases h : fn.body <;> simp_all
  have h3 : (fn.name == "runtime.NumGoroutine") = false := by simpa using h1
  unfold callFunc
  simp only [Sem.run_bind, run_program, Result.andThen_ok, hf, h3, h2]
  rfl

theorem evGo_ok {gl : Nat → Nat} {call : CallF} (hn : NoGo P) (hcall : CallOk P gl call) (hr : HRel ρ H w) (hg : GRel gl ρ) {a : Act} {o : Oper} {g : Nat} {args : List AV} {vs : Array Value} {v : AV} {H' : AHeap}
    (hnd : ∀ c, o.op ≠ .defer c) (hargs : RL ρ args vs.toList) (h : evGo call g args H = some (v, H')) (hrun : (execOp a.eval o).run P w = (callFunc g vs).run P w)
    {next : Act → World → Prop} {Q : Exit → Act → World → Prop} {ro : Option Nat} {n : Nat}
    (hnext : ∀ u w' ρ', R ρ' v u → Step ρ H w ρ' H' w' → next (a.put o.dst u) w') : o.wpIn (W ro) n P a w next Q := by
  unfold evGo at h
  split at h
  · rename_i r hc
    injection h with h; subst h
    obtain ⟨⟨fn, hfn, hbody⟩, hC⟩ := hcall.fn _ _ _ _ _ hc
    rw [run_callFunc hn hfn hbody] at hrun
    refine wpIn_enter (R := fun u w' => ∃ ρ', R ρ' v u ∧ Step ρ H w ρ' H' w') hnd hrun ((hC ρ w _ hr hg hargs).mono ?_) ?_
    · rintro en w' ⟨ρ', u, rfl, hu, hst⟩
      exact ⟨u, rfl, ρ', hu, hst⟩
    · rintro u w' ⟨ρ', hu, hst⟩
      exact hnext u w' ρ' hu hst
  · obtain ⟨u, w', ρ', h1, h2, h3⟩ := hcall.ext _ _ _ _ _ h ρ w vs hr hargs
    exact wpIn_value hnd (hrun.trans h1) (hnext u w' ρ' h2 h3)

theorem evEf_ok {gl : Nat → Nat} {call : CallF} (hn : NoGo P) (hcall : CallOk P gl call) (hr : HRel ρ H w) (hg : GRel gl ρ) {a : Act} {e : Operand → AV} (hx : ∀ x, R ρ (e x) (a.eval x)) {o : Oper} {v : AV} {H' : AHeap}
    (h : evEf P call H e o.op = some (v, H')) {next : Act → World → Prop} {Q : Exit → Act → World → Prop} {ro : Option Nat} {n : Nat}
    (hnext : ∀ u w' ρ', R ρ' v u → Step ρ H w ρ' H' w' → next (a.put o.dst u) w') : o.wpIn (W ro) n P a w next Q := by
  have hnd : ∀ c, o.op ≠ .defer c := by
    intro c hc
    rw [hc] at h
    cases h
  have skip : ∀ {w' : World}, (execOp a.eval o).run P w = .ok .skip w' → v = undefA → Step ρ H w ρ H' w' → o.wpIn (W ro) n P a w next Q := by
    intro w' h1 h2 h3
    exact wpIn_skp hnd h1 (hnext undef w' ρ (by rw [h2]; exact R_undef) h3)
  have value : ∀ {u : Value} {w' : World} {ρ' : Rho}, (execOp a.eval o).run P w = .ok (.value u) w' → R ρ' v u → Step ρ H w ρ' H' w' → o.wpIn (W ro) n P a w next Q := by
    intro u w' ρ' h1 h2 h3
    exact wpIn_value hnd h1 (hnext u w' ρ' h2 h3)
  unfold evEf at h
  split at h
  · rename_i t x y ho
    split at h
    case h_2 => cases h
    rename_i H'' hs
    injection h with h
    simp only [Prod.mk.injEq] at h
    obtain ⟨rfl, rfl⟩ := h
    obtain ⟨w', h1, h2⟩ := evStore_ok hr (hx x) (hx y) hs
    exact skip (by simp [execOp, ho, h1]) rfl h2
  · rename_i t m k y ho
    split at h
    case h_2 => cases h
    rename_i H'' hs
    injection h with h
    simp only [Prod.mk.injEq] at h
    obtain ⟨rfl, rfl⟩ := h
    obtain ⟨w', h1, h2⟩ := evMapUpdate_ok hr (hx m) (hx k) (hx y) hs
    exact skip (by simp [execOp, ho, h1]) rfl h2
  · rename_i t m k y ho
    split at h
    case h_2 => cases h
    rename_i H'' hs
    injection h with h
    simp only [Prod.mk.injEq] at h
    obtain ⟨rfl, rfl⟩ := h
    obtain ⟨w', h1, h2⟩ := evMapUpdate_ok hr (hx m) (hx k) (hx y) hs
    exact skip (by simp [execOp, ho, h1]) rfl h2
  · rename_i c ho
    split at h
    · rename_i hcal
      split at h
      case h_2 => cases h
      rename_i t u s x hat hargs
      obtain ⟨uu, w', ρ', h1, h2, h3⟩ := evAppend_ok hr o.type (hx s) (hx x) h
      have hargs' : c.args = #[s, x] := by apply Array.ext'; simpa using hargs
      have hat' : c.argTypes = #[t, u] := by apply Array.ext'; simpa using hat
      exact value (by simp [execOp, ho, resolve, hcal, invoke, builtin, hargs', hat', h1]) h2 h3
    · rename_i hcal
      split at h
      case h_2 => cases h
      rename_i t d s hat hargs
      obtain ⟨uu, w', h1, h2, h3⟩ := evCopy_ok hr c.argTypes o.type hat (hx d) (hx s) h
      have hargs' : c.args = #[d, s] := by apply Array.ext'; simpa using hargs
      exact value (by simp [execOp, ho, resolve, hcal, invoke, builtin, hargs', h1]) h2 h3
    · rename_i hcal
      split at h
      case h_2 => cases h
      rename_i t m k hat hargs
      split at h
      case h_2 => cases h
      rename_i H'' hs
      injection h with h
      simp only [Prod.mk.injEq] at h
      obtain ⟨rfl, rfl⟩ := h
      obtain ⟨w', h1, h2⟩ := evDelete_ok hr c.argTypes o.type hat (hx m) (hx k) hs
      have hargs' : c.args = #[m, k] := by apply Array.ext'; simpa using hargs
      exact value (ρ' := ρ) (by simp [execOp, ho, resolve, hcal, invoke, builtin, hargs', h1]; rfl) (by simp [R, RL]) h2
    · rename_i hcal
      split at h
      case h_2 => cases h
      rename_i t m hat hargs
      split at h
      case h_2 => cases h
      rename_i H'' hs
      injection h with h
      simp only [Prod.mk.injEq] at h
      obtain ⟨rfl, rfl⟩ := h
      obtain ⟨w', h1, h2⟩ := evClear_ok hr c.argTypes o.type hat (hx m) hs
      have hargs' : c.args = #[m] := by apply Array.ext'; simpa using hargs
      exact value (ρ' := ρ) (by simp [execOp, ho, resolve, hcal, invoke, builtin, hargs', h1]; rfl) (by simp [R, RL]) h2
    · rename_i hcal
      split at h
      case h_2 => cases h
      rename_i t it p n hat hargs
      obtain ⟨uu, w', h1, h2, h3⟩ := evUStr_ok (P := P) hr it o.type (hx p) (hx n) h
      have hargs' : c.args = #[p, n] := by apply Array.ext'; simpa using hargs
      have hat' : c.argTypes = #[t, it] := by apply Array.ext'; simpa using hat
      exact value (by simp [execOp, ho, resolve, hcal, invoke, builtin, hargs', hat', h1]) h2 h3
    · rename_i f hcal
      split at h
      case h_3 => cases h
      · rename_i g first cap hf
        have hff := hx f
        rw [hf] at hff
        simp only [R] at hff
        obtain ⟨f', c', hev, h1, h2⟩ := hff
        have hargs : RL ρ (catV first (catV (mapO e c.args.toList) cap)) (f' ++ c.args.map a.eval ++ c').toList := by
          rw [catV_eq, catV_eq]
          simp only [Array.toList_append, Array.toList_map, List.append_assoc]
          exact RL.append h1 (RL.append (mapO_ok hx _) h2)
        refine evGo_ok hn hcall hr hg hnd hargs h ?_ hnext
        simp [execOp, ho, resolve, hcal, hev, Deferred.ofValue, invoke]
      · rename_i k hf
        have hff := hx f
        rw [hf] at hff
        simp only [R] at hff
        obtain ⟨I, hI, hev⟩ := hff
        obtain ⟨r, hl, hsz, hC⟩ := hcall.round _ _ _ _ _ h ρ w (c.args.map a.eval) I hr hg (by rw [Array.toList_map]; exact mapO_ok hx _) hI
        have hrun : (execOp a.eval o).run P w = .ok (.round I.B r.fn ((r.params.zip (c.args.map a.eval)).foldl (fun tmps (t, a) => tmps.setIfInBounds t a) r.tmps) r.assign r.body) w := by
          have hy := run_yield (P := P) hl hsz
          simp only [execOp, ho, resolve, hcal, hev, Deferred.ofValue, Sem.run_bind, Sem.run_pure, Result.andThen_ok, invoke]
          rw [Array.empty_append]
          exact hy
        refine wpIn_yield (R := fun u w' => ∃ ρ', R ρ' v u ∧ Step ρ H w ρ' H' w') hnd hrun (fun n => (hC n).mono ?_) ?_
        · rintro en w' ⟨ρ', u, rfl, hu, hst⟩
          exact ⟨u, rfl, ρ', hu, hst⟩
        · rintro u w' ⟨ρ', hu, hst⟩
          exact hnext u w' ρ' hu hst
    · rename_i r name hcal
      split at h
      case h_2 => cases h
      rename_i t x hr0
      split at h
      case h_2 => cases h
      rename_i g H0 hi
      obtain ⟨g', hg', hm⟩ := hcall.inv _ _ _ _ _ _ hi
      injection hg' with hg'
      injection hg' with hg'
      subst hg'
      have hrr := hx r
      rw [hr0] at hrr
      simp only [R] at hrr
      obtain ⟨u, hev, hu⟩ := hrr
      have hargs : RL ρ (x :: mapO e c.args.toList) (#[u] ++ c.args.map a.eval).toList := by
        simp only [Array.toList_append, Array.toList_map, List.cons_append, List.nil_append]
        rw [RL_cons_cons]
        exact ⟨hu, mapO_ok hx _⟩
      refine evGo_ok hn hcall hr hg hnd hargs h ?_ hnext
      have hex : (#[Value.iface t u] ++ c.args.map a.eval).extract 1 (#[Value.iface t u] ++ c.args.map a.eval).size = c.args.map a.eval := by
        apply Array.ext'; simp
        rw [List.take_of_length_le (by simp)]
      have h0 : (#[Value.iface t u] ++ c.args.map a.eval)[0]? = some (.iface t u) := by rw [Array.getElem?_append_left (by simp)]; rfl
      simp only [execOp, ho, resolve, hcal, hev, Sem.run_bind, Sem.run_pure, Result.andThen_ok, invoke, h0, hex, callMethod, run_program, hm u w]
    · cases h
  · cases h

end Go.Ev

/- The bytes of a string, laid in a row of their own. -/
namespace Go.Ev
variable {P : Program} {ρ : Rho} {H : AHeap} {w : World}

noncomputable def bytesObj (e : TypeId) (s : List Nat) : AObj := .cells true (some e) 0 (fillT (strCells s) 0 0 .leaf)

noncomputable def evSB (P : Program) (H : AHeap) (ev : Operand → AV) (o : Op) : Option (AV × AHeap) :=
  match o with
  | .convert src dst x =>
    match P.underlying src, P.underlying dst with
    | some _, some (.slice e) =>
      match P.underlying e, ev x with
      | some (.int .u8), .str s => some (.slice H.next 0 0 (len s) none 1, ⟨H.next + 1, H.blks.set H.next (bytesObj e s)⟩)
      | _, _ => none
    | _, _ => none
  | _ => none

theorem freeze_alloc (c : Array Value) (e : TypeId) : (w.alloc (.cells c e)).freeze ⟨w.heap.size, c.size, none⟩ 1 = w.alloc (.cells c e (c.size, c.size + 1)) := by
  unfold World.freeze World.alloc
  simp only
  rw [if_neg (by omega)]
  congr 1
  apply Array.ext_getElem?
  intro j
  rw [Array.getElem?_modify, Array.getElem?_push, Array.getElem?_push]
  by_cases h : w.heap.size = j
  · subst h; simp
  · rw [if_neg h]
    have h2 : ¬ j = w.heap.size := fun e => h e.symm
    rw [if_neg h2, if_neg h2]

theorem evSB_ok (hr : HRel ρ H w) {ev : Operand → AV} {ec : Operand → Value} (hx : ∀ x, R ρ (ev x) (ec x)) {o : Oper} {v : AV} {H' : AHeap} (h : evSB P H ev o.op = some (v, H')) :
    ∃ u w' ρ', (execOp ec o).run P w = .ok (.value u) w' ∧ R ρ' v u ∧ Step ρ H w ρ' H' w' := by
  unfold evSB at h
  split at h
  case h_2 => cases h
  rename_i src dst x ho
  split at h
  case h_2 => cases h
  rename_i d e hs hd
  split at h
  case h_2 => cases h
  rename_i s he hev
  injection h with h
  simp only [Prod.mk.injEq] at h
  obtain ⟨rfl, rfl⟩ := h
  have hxx := hx x
  rw [hev] at hxx
  simp only [R] at hxx
  obtain ⟨ba, hba, hb⟩ := hxx
  have hrun := Lib.run_convert_string_bytes (P := P) w src dst e ba hs hd he
  have hsize : ba.size = s.length := by rw [← hb, bytesOf_size]
  have hge := grownCap_ge w ba.size 0 e
  have hcs : (Lib.bytesCells w e ba).size = grownCap w ba.size 0 e := by
    have : ba.data.size = ba.size := rfl
    simp [Lib.bytesCells]; omega
  have hw : Lib.bytesWorld w e ba = w.drew.alloc (.cells (Lib.bytesCells w e ba) e ((Lib.bytesCells w e ba).size, (Lib.bytesCells w e ba).size + 1)) := by
    unfold Lib.bytesWorld
    exact freeze_alloc (w := w.drew) _ _
  have hnew : NewOk P ρ w.drew (bytesObj e s) (fun id => .slice id 0 0 (len s) none 1) (Lib.bytesCells w e ba).size (.slice (some ⟨w.heap.size, 0, none⟩) ba.size (grownCap w ba.size 0 e))
      (.cells (Lib.bytesCells w e ba) e ((Lib.bytesCells w e ba).size, (Lib.bytesCells w e ba).size + 1)) := by
    intro ρ' id hext hid
    refine ⟨?_, Nat.le_refl _, Nat.zero_le _, ?_, _, e, _, heap_alloc_new, rfl, ⟨fun h => (by cases h), fun _ h => (by injection h), fun _ _ => ⟨rfl, rfl⟩⟩, ?_⟩
    · simp only [R]
      refine ⟨_, ⟨w.heap.size, 0, none⟩, grownCap w ba.size 0 e, hid, Nat.le_refl _, ?_, ?_, ?_, .inl ⟨rfl, ?_⟩, by simp⟩
      · rw [len_eq]; simp only; omega
      · rw [len_eq]; omega
      · rw [len_eq, hsize]
      · simp only; omega
    · intro j v st hg
      rw [get_fillT] at hg
      split at hg
      · cases hl : (strCells s)[j - 0]? with
        | none => rw [hl] at hg; cases hg
        | some a => rw [hl] at hg; simp at hg; omega
      · cases hg
    · intro j v st _ hj hg _
      rw [get_fillT] at hg
      split at hg
      · rename_i hin
        have hstr : RL ρ (strCells s) (ba.data.toList.map fun b => Value.int .u8 b.toNat) := by rw [← hb]; exact strCells_ok ba.data.toList
        cases hl : (strCells s)[j - 0]? with
        | none => rw [hl] at hg; cases hg
        | some a =>
          rw [hl] at hg
          simp at hg
          obtain ⟨rfl, _⟩ := hg
          obtain ⟨u, hu, hR⟩ := RL.get hstr hl
          refine ⟨u, ?_, R.mono hext _ _ hR⟩
          rw [← hu]
          unfold Lib.bytesCells
          have hlt : j - 0 < ba.data.size := by
            have := (List.getElem?_eq_some_iff.1 hu).1
            simpa using this
          rw [Array.getElem?_append_left (by simpa using hlt)]
          simp
      · cases hg
  obtain ⟨ρ', h1, h2⟩ := alloc_step (P := P) hr.drew hnew
  rw [hw] at hrun
  exact ⟨_, _, ρ', by simp only [execOp, ho, Sem.run_bind, hba, hrun, Result.andThen_ok, Sem.run_pure], h2, Step.trans hr (Step.drew hr) h1⟩

end Go.Ev

/- Oracles: what an operation comes to, where the evaluator alone cannot tell; and what is known of the memory that was there. -/
namespace Go.Ev
open Go.RowKit
variable {P : Program} {ρ : Rho} {H : AHeap} {w : World}

/-- What is known behind some steps from a world: all that was there is as it was, but for the blocks of a set; what is known and may be written is new, or of that set. -/
structure Good (gl : Nat → Nat) (w0 : World) (M : Nat → Prop) (ρ : Rho) (H : AHeap) (w : World) : Prop where
  rel : HRel ρ H w
  glo : GRel gl ρ
  os : w.os = w0.os
  tape : w.tape = w0.tape
  output : w.output = w0.output
  size : w0.heap.size ≤ w.heap.size
  low : ∀ B, B < w0.heap.size → ¬ M B → w.heap[B]? = w0.heap[B]?
  own : ∀ b x I o, ρ b x = some I → I.B < w0.heap.size → ¬ M I.B → H.blks.get b = some o → o.ro = true

theorem Good.start {gl : Nat → Nat} (hr : HRel ρ H w) (hg : GRel gl ρ) : Good gl w (fun _ => True) ρ H w :=
  ⟨hr, hg, rfl, rfl, rfl, Nat.le_refl _, fun _ _ h => absurd trivial h, fun _ _ _ _ _ _ h => absurd trivial h⟩

theorem Good.step {gl : Nat → Nat} {w0 w' : World} {M : Nat → Prop} {ρ' : Rho} {H' : AHeap} (h : Good gl w0 M ρ H w) (s : Step ρ H w ρ' H' w') : Good gl w0 M ρ' H' w' := by
  have hsz := h.size
  refine ⟨s.rel, h.glo.mono s.ext, s.fr.os.trans h.os, s.fr.tape.trans h.tape, s.fr.output.trans h.output, Nat.le_trans h.size s.fr.size, ?_, ?_⟩
  · intro B hB hM
    rw [← h.low B hB hM]
    exact s.fr.old B (by omega) (fun b x I o h1 h2 h3 => h.own b x I o h1 (by omega) (by rw [h2]; exact hM) h3)
  · intro b x I o h1 h2 hM h3
    have key : ∃ y J, ρ b y = some J ∧ J.B = I.B := by
      rcases s.new b x I h1 with g | ⟨g, _⟩ | ⟨y, J, g1, g2⟩
      · exact ⟨x, I, g, rfl⟩
      · omega
      · exact ⟨y, J, g1, g2⟩
    obtain ⟨y, J, g1, g2⟩ := key
    cases hg : H.blks.get b with
    | none => rw [s.hx.gone b (h.rel.lt b y J g1).1 hg] at h3; cases h3
    | some o0 =>
      obtain ⟨o', k1, k2⟩ := s.hx.kept b o0 hg
      rw [k1] at h3; cases h3
      rw [k2]
      exact h.own b y J o0 g1 (by omega) (by rw [g2]; exact hM) hg

theorem Good.cell {gl : Nat → Nat} {w0 : World} {M : Nat → Prop} (h : Good gl w0 M ρ H w) {a : Addr} (ha : a.block < w0.heap.size) (hM : ¬ M a.block) : w.cell? a = w0.cell? a := by
  simp only [World.cell?]
  rw [h.low a.block ha hM]

structure Orc where
  rd : AHeap → (Operand → AV) → Oper → Option AV
  al : (Operand → AV) → Oper → Option Made
  ef : AHeap → (Operand → AV) → Oper → Option (AV × AHeap)

/-- None. -/
def O0 : Orc := ⟨fun _ _ _ => none, fun _ _ => none, fun _ _ _ => none⟩

def RdOk (P : Program) (gl : Nat → Nat) (wB : World) (M : Nat → Prop) (H : AHeap) (e : Operand → AV) (o : Oper) (v : AV) : Prop :=
  ∀ (ρ : Rho) (w : World) (ec : Operand → Value), Good gl wB M ρ H w → (∀ x, R ρ (e x) (ec x)) → ∃ u, (execOp ec o).run P w = .ok (.value u) w ∧ R ρ v u
def AlOk (P : Program) (e : Operand → AV) (o : Oper) (m : Made) : Prop :=
  ∀ (ρ : Rho) (w : World) (ec : Operand → Value), (∀ x, R ρ (e x) (ec x)) → ∃ u o', (execOp ec o).run P w = .ok (.value u) (w.alloc o') ∧ NewOk P ρ w m.obj m.val m.n u o'
def EfOk (P : Program) (gl : Nat → Nat) (wB : World) (M : Nat → Prop) (H : AHeap) (e : Operand → AV) (o : Oper) (v : AV) (H' : AHeap) : Prop :=
  ∀ (ρ : Rho) (w : World) (a : Act), Good gl wB M ρ H w → (∀ x, R ρ (e x) (a.eval x)) → ∀ (next : Act → World → Prop) (Q : Exit → Act → World → Prop) (ro : Option Nat) (n : Nat),
    (∀ u w' ρ', R ρ' v u → Step ρ H w ρ' H' w' → next (a.put o.dst u) w') → o.wpIn (W ro) n P a w next Q

structure OrcOk (P : Program) (gl : Nat → Nat) (wB : World) (M : Nat → Prop) (O : Orc) : Prop where
  rd : ∀ H e o v, O.rd H e o = some v → RdOk P gl wB M H e o v
  al : ∀ e o m, O.al e o = some m → AlOk P e o m
  ef : ∀ H e o v H', O.ef H e o = some (v, H') → EfOk P gl wB M H e o v H'

theorem O0_ok {gl : Nat → Nat} {wB : World} {M : Nat → Prop} : OrcOk P gl wB M O0 :=
  ⟨fun _ _ _ _ h => (by cases h), fun _ _ _ h => (by cases h), fun _ _ _ _ _ h => (by cases h)⟩

noncomputable def rdO (P : Program) (O : Orc) (H : AHeap) (e : Operand → AV) (o : Oper) : Option AV :=
  match O.rd H e o with
  | some v => some v
  | none => evRd P H e o.op
noncomputable def alO (P : Program) (O : Orc) (e : Operand → AV) (o : Oper) : Option Made :=
  match O.al e o with
  | some m => some m
  | none => evAl P e o.op
noncomputable def efO (P : Program) (O : Orc) (call : CallF) (H : AHeap) (e : Operand → AV) (o : Oper) : Option (AV × AHeap) :=
  match O.ef H e o with
  | some r => some r
  | none => evEf P call H e o.op

theorem rdO_ok {gl : Nat → Nat} {wB : World} {M : Nat → Prop} {O : Orc} (hO : OrcOk P gl wB M O) (hG : Good gl wB M ρ H w) {e : Operand → AV} {ec : Operand → Value} (hx : ∀ x, R ρ (e x) (ec x)) {o : Oper} {v : AV} (h : rdO P O H e o = some v) :
    ∃ u, (execOp ec o).run P w = .ok (.value u) w ∧ R ρ v u := by
  unfold rdO at h
  split at h
  · rename_i v' hv
    injection h with h; subst h
    exact hO.rd _ _ _ _ hv ρ w ec hG hx
  · exact evRd_ok hG.rel hx h

theorem alO_ok {gl : Nat → Nat} {wB : World} {M : Nat → Prop} {O : Orc} (hO : OrcOk P gl wB M O) {e : Operand → AV} {ec : Operand → Value} (hx : ∀ x, R ρ (e x) (ec x)) {o : Oper} {m : Made} (h : alO P O e o = some m) :
    ∃ u o', (execOp ec o).run P w = .ok (.value u) (w.alloc o') ∧ NewOk P ρ w m.obj m.val m.n u o' := by
  unfold alO at h
  split at h
  · rename_i v' hv
    injection h with h; subst h
    exact hO.al _ _ _ hv ρ w ec hx
  · exact evAl_ok hx h

theorem efO_ok {gl : Nat → Nat} {wB : World} {M : Nat → Prop} {O : Orc} (hO : OrcOk P gl wB M O) {call : CallF} (hn : NoGo P) (hcall : CallOk P gl call) (hG : Good gl wB M ρ H w) {a : Act} {e : Operand → AV} (hx : ∀ x, R ρ (e x) (a.eval x)) {o : Oper} {v : AV} {H' : AHeap}
    (h : efO P O call H e o = some (v, H')) {next : Act → World → Prop} {Q : Exit → Act → World → Prop} {ro : Option Nat} {n : Nat}
    (hnext : ∀ u w' ρ', R ρ' v u → Step ρ H w ρ' H' w' → next (a.put o.dst u) w') : o.wpIn (W ro) n P a w next Q := by
  unfold efO at h
  split at h
  · rename_i r hr
    injection h with h; subst h
    exact hO.ef _ _ _ _ _ hr ρ w a hG hx next Q ro n hnext
  · exact evEf_ok hn hcall hG.rel hG.glo hx h hnext

end Go.Ev

/- A region whose operations come in the order of the text. -/
namespace Go.Ev
variable {P : Program} {ρ : Rho} {H : AHeap} {w : World}

structure St where
  t : T AV
  H : AHeap

/-- Is an operation wanted? By the temporary of the operation that guards it. -/
noncomputable def wantedA (l : List Oper) (t : T AV) : Option (Nat × Bool) → Option Bool
  | none => some true
  | some (j, want) =>
    match nth l j with
    | some o =>
      match o.dst with
      | some d => (match look t d with | .bool b => some (b == want) | .bad => none | .agg _ => none | .func _ _ _ => none | .iface _ _ => none | .tuple _ => some false | _ => none)
      | none => none
    | none => none

noncomputable def putA (nt : Nat) (t : T AV) (dst : Option Nat) (v : AV) : Option (T AV) :=
  match dst with
  | none => some t
  | some d => bif Nat.blt d nt then some (t.set d v) else none

theorem putA_ok {nt : Nat} {t t' : T AV} {dst : Option Nat} {v : AV} {a : Act} {u : Value} (h : putA nt t dst v = some t') (ht : TRel ρ t a.tmps) (hs : nt ≤ a.tmps.size) (hv : R ρ v u) :
    TRel ρ t' (a.put dst u).tmps ∧ nt ≤ (a.put dst u).tmps.size ∧ (a.put dst u).defers = a.defers := by
  unfold putA at h
  split at h
  · injection h with h; subst h
    exact ⟨ht, hs, rfl⟩
  · rename_i d
    cases hb : Nat.blt d nt with
    | false => simp [hb] at h
    | true =>
      simp only [hb, cond_true] at h
      injection h with h; subst h
      have hd : d < nt := by simpa [Nat.blt_eq] using hb
      exact ⟨ht.set (by omega) hv, by simpa [Act.put] using hs, rfl⟩

theorem wantedA_ok {ops : Array Oper} {t : T AV} {a : Act} {o : Oper} {b : Bool} (ht : TRel ρ t a.tmps) (hlen : ∀ j, j < ops.size → ∀ d, ((ops[j]?).bind (·.dst)) = some d → d < a.tmps.size)
    (h : wantedA ops.toList t o.guard = some b) : Region.wanted o (yielded ops a.tmps) = b := by
  unfold wantedA at h
  unfold Region.wanted
  split at h
  · rename_i hg
    injection h with h; subst h
    rw [hg]
  · rename_i j want hg
    rw [hg]
    simp only
    rw [nth_eq] at h
    split at h
    case h_2 => cases h
    rename_i oj hj
    have hj' : ops[j]? = some oj := by simpa using hj
    split at h
    case h_2 => cases h
    rename_i d hd
    have hjlt : j < ops.size := (Array.getElem?_eq_some_iff.1 hj').1
    have hdlt := hlen j hjlt d (by rw [hj']; exact hd)
    have hR := ht d
    have hget : a.tmps.getD d undef = a.tmps[d] := by simp [hdlt]
    rw [hget] at hR
    unfold yielded
    rw [hj']
    simp only [Option.bind_some, hd]
    rw [Array.getElem?_eq_getElem hdlt]
    split at h
    · rename_i bb hl
      rw [hl] at hR
      simp only [R] at hR
      rw [hR]
      cases h; rfl
    · cases h
    · cases h
    · cases h
    · cases h
    · rename_i hl
      rw [hl] at hR
      simp only [R] at hR
      obtain ⟨l, hl2, _⟩ := hR
      rw [hl2]
      cases h; rfl
    · cases h

/-- One operation, whatever its kind. -/
noncomputable def evAny (P : Program) (O : Orc) (call : CallF) (H : AHeap) (e : Operand → AV) (o : Oper) : Option (AV × AHeap) :=
  match kindOf o.op with
  | .rd => (match rdO P O H e o with | some v => some (v, H) | none => evSB P H e o.op)
  | .al => (match alO P O e o with | some m => some (m.val H.next, ⟨H.next + 1, H.blks.set H.next m.obj⟩) | none => none)
  | .ef => efO P O call H e o

theorem nd_rd {o : Op} (h : kindOf o = .rd) : ∀ c, o ≠ .defer c := by intro c hc; rw [hc] at h; cases h
theorem nd_al {o : Op} (h : kindOf o = .al) : ∀ c, o ≠ .defer c := by intro c hc; rw [hc] at h; cases h

theorem evAny_ok {gl : Nat → Nat} {wB : World} {M : Nat → Prop} {O : Orc} (hO : OrcOk P gl wB M O) {call : CallF} (hn : NoGo P) (hcall : CallOk P gl call) (hG : Good gl wB M ρ H w) {a : Act} {e : Operand → AV} (hx : ∀ x, R ρ (e x) (a.eval x)) {o : Oper} {v : AV} {H' : AHeap}
    (h : evAny P O call H e o = some (v, H')) {next : Act → World → Prop} {Q : Exit → Act → World → Prop} {ro : Option Nat} {n : Nat}
    (hnext : ∀ u w' ρ', R ρ' v u → Step ρ H w ρ' H' w' → next (a.put o.dst u) w') : o.wpIn (W ro) n P a w next Q := by
  have hr := hG.rel
  unfold evAny at h
  split at h
  · rename_i hk
    split at h
    · rename_i v' hv
      injection h with h
      simp only [Prod.mk.injEq] at h
      obtain ⟨rfl, rfl⟩ := h
      obtain ⟨u, h1, h2⟩ := rdO_ok hO hG hx hv
      exact wpIn_value (nd_rd hk) h1 (hnext u w ρ h2 (Step.refl hr))
    · obtain ⟨u, w', ρ', h1, h2, h3⟩ := evSB_ok hr hx h
      exact wpIn_value (nd_rd hk) h1 (hnext u w' ρ' h2 h3)
  · rename_i hk
    split at h
    case h_2 => cases h
    rename_i m hm
    injection h with h
    simp only [Prod.mk.injEq] at h
    obtain ⟨rfl, rfl⟩ := h
    obtain ⟨u, o', h1, h2⟩ := alO_ok hO hx hm
    obtain ⟨ρ', h3, h4⟩ := alloc_step hr h2
    exact wpIn_value (nd_al hk) h1 (hnext u _ ρ' h4 h3)
  · exact efO_ok hO hn hcall hG hx h hnext

noncomputable def evSeqStep (P : Program) (gl : Nat → Nat) (O : Orc) (call : CallF) (l : List Oper) (nt : Nat) (o : Oper) (st : St) : Option St :=
  match wantedA l st.t o.guard with
  | some true =>
    match evAny P O call st.H (opd gl st.t) o with
    | some (v, H') => (match putA nt st.t o.dst v with | some t' => some ⟨t', H'⟩ | none => none)
    | none => none
  | some false => (match putA nt st.t o.dst undefA with | some t' => some ⟨t', st.H⟩ | none => none)
  | none => none

/-- What holds behind a piece of code that went on. -/
def Post (gl : Nat → Nat) (nt : Nat) (ρ : Rho) (H : AHeap) (w : World) (ds : List Deferred) (st : St) (a : Act) (w' : World) : Prop :=
  ∃ ρ', Step ρ H w ρ' st.H w' ∧ TRel ρ' st.t a.tmps ∧ nt ≤ a.tmps.size ∧ a.defers = ds

def dstsOk (ops : Array Oper) (nt : Nat) : Prop := ∀ j, j < ops.size → ∀ d, ((ops[j]?).bind (·.dst)) = some d → d < nt

end Go.Ev

/- Regions whose operations come in any order that their edges leave: what the text alone fixes. -/
namespace Go.Ev

/-! Sets of small numbers, as the bits of one number. -/
noncomputable def bitOf (m d : Nat) : Bool := Nat.rec (motive := fun _ => Bool) false (fun _ _ => true) (Nat.land 1 (Nat.shiftRight m d))
theorem bitOf_eq (m d : Nat) : bitOf m d = m.testBit d := by
  unfold bitOf Nat.testBit
  show Nat.rec (motive := fun _ => Bool) false (fun _ _ => true) (1 &&& m >>> d) = _
  cases (1 &&& m >>> d) <;> rfl
noncomputable def addBit (m d : Nat) : Nat := Nat.lor m (Nat.shiftLeft 1 d)
theorem bitOf_add (m d k : Nat) : bitOf (addBit m d) k = (decide (k = d) || bitOf m k) := by
  rw [bitOf_eq, bitOf_eq]
  show (m ||| 1 <<< d).testBit k = _
  rw [Nat.testBit_or, Nat.testBit_shiftLeft]
  by_cases h : k = d
  · subst h; simp
  · by_cases h2 : d ≤ k
    · have : k - d ≠ 0 := by omega
      obtain ⟨q, hq⟩ : ∃ q, k - d = q + 1 := ⟨k - d - 1, by omega⟩
      have h1 : Nat.testBit 1 (k - d) = false := by rw [hq, Nat.testBit_succ]; simp
      simp [h, h2, h1]
    · simp [h, h2]
theorem bitOf_or (a b k : Nat) : bitOf (Nat.lor a b) k = (bitOf a k || bitOf b k) := by
  rw [bitOf_eq, bitOf_eq, bitOf_eq]
  exact Nat.testBit_or a b k
theorem bitOf_zero (k : Nat) : bitOf 0 k = false := by rw [bitOf_eq]; simp

noncomputable def numAt (t : T Nat) (i : Nat) : Nat := Option.rec (motive := fun _ => Nat) 0 (fun a => a) (t.get i)
theorem numAt_set (t : T Nat) (i a k : Nat) : numAt (t.set i a) k = if k = i then a else numAt t k := by
  unfold numAt
  rw [T.get_set]
  split <;> rfl
theorem numAt_leaf (i : Nat) : numAt .leaf i = 0 := rfl

/-! What an operation reads, and what it comes behind. -/
noncomputable def edgesOf (o : Oper) : List Nat := List.rec (motive := fun _ => List Nat) [] (fun e _ ih => bif Region.binds .any e then e.on :: ih else ih) o.after.toList
noncomputable def tmpsOf (l : List Operand) : List Nat := List.rec (motive := fun _ => List Nat) [] (fun x _ ih => match x with | .tmp d => d :: ih | _ => ih) l
noncomputable def guardD (l : List Oper) (g : Option (Nat × Bool)) : Option Nat :=
  match g with
  | none => none
  | some (j, _) => (match nth l j with | some o => o.dst | none => none)
noncomputable def readsOf (l : List Oper) (o : Oper) : List Nat :=
  match guardD l o.guard with
  | some d => d :: tmpsOf o.op.operands.toList
  | none => tmpsOf o.op.operands.toList
noncomputable def isEf (o : Oper) : Bool := match kindOf o.op with | .ef => true | _ => false

theorem mem_edgesOf {o : Oper} {j : Nat} : j ∈ edgesOf o ↔ ∃ e ∈ o.after.toList, Region.binds .any e = true ∧ e.on = j := by
  unfold edgesOf
  generalize o.after.toList = l
  induction l with
  | nil => simp
  | cons e l ih =>
    show j ∈ (bif Region.binds .any e then e.on :: _ else _) ↔ _
    cases h : Region.binds .any e
    · simp only [cond_false]; rw [ih]; simp [h]
    · simp only [cond_true, List.mem_cons]; rw [ih]
      constructor
      · rintro (rfl | ⟨e', h1, h2⟩)
        · exact ⟨e, .inl rfl, h, rfl⟩
        · exact ⟨e', .inr h1, h2⟩
      · rintro ⟨e', rfl | h1, h2, h3⟩
        · exact .inl h3.symm
        · exact .inr ⟨e', h1, h2, h3⟩

/-! The run over an order: which operations must have come before each. -/
structure SS where
  M : Nat
  bef : T Nat
  wr : T Nat
  rd : T Nat

noncomputable def befOf (s : SS) (es : List Nat) : Option Nat :=
  List.rec (motive := fun _ => Option Nat) (some 0) (fun j _ ih => bif bitOf s.M j then (match ih with | some b => some (Nat.lor (addBit b j) (numAt s.bef j)) | none => none) else none) es
noncomputable def rdsOk (s : SS) (b : Nat) (ds : List Nat) : Bool :=
  List.rec (motive := fun _ => Bool) true (fun d _ ih => bif (match s.wr.get d with | some j => bitOf b j | none => true) then ih else false) ds
noncomputable def addRd (i : Nat) (ds : List Nat) : T Nat → T Nat :=
  List.rec (motive := fun _ => T Nat → T Nat) (fun t => t) (fun d _ ih t => ih (t.set d (addBit (numAt t d) i))) ds
noncomputable def subset (a b : Nat) : Bool := Nat.beq (Nat.lor a b) b
theorem subset_ok {a b k : Nat} (h : subset a b = true) (hk : bitOf a k = true) : bitOf b k = true := by
  have h := Nat.eq_of_beq_eq_true h
  rw [← h, bitOf_or, hk]; rfl

noncomputable def sstep (l : List Oper) (i : Nat) (s : SS) : Option SS :=
  match nth l i with
  | none => none
  | some o =>
    bif bitOf s.M i then none else
    match befOf s (edgesOf o) with
    | none => none
    | some b =>
      bif (bif isEf o then subset s.M b else true) && rdsOk s b (readsOf l o) then
        match o.dst with
        | none => some ⟨addBit s.M i, s.bef.set i b, s.wr, addRd i (readsOf l o) s.rd⟩
        | some d => (match s.wr.get d with
          | some _ => none
          | none => bif subset (numAt s.rd d) b then some ⟨addBit s.M i, s.bef.set i b, s.wr.set d i, addRd i (readsOf l o) s.rd⟩ else none)
      else none

noncomputable def srun (l : List Oper) (rest : List Nat) : SS → Option SS :=
  List.rec (motive := fun _ => SS → Option SS) (fun s => some s) (fun i _ ih s => match sstep l i s with | some s' => ih s' | none => none) rest
theorem srun_nil (l : List Oper) (s : SS) : srun l [] s = some s := rfl
theorem srun_cons (l : List Oper) (i : Nat) (rest : List Nat) (s : SS) : srun l (i :: rest) s = match sstep l i s with | some s' => srun l rest s' | none => none := rfl

/-- Sets of operations that hold with each all that it comes behind. -/
def Down (l : List Oper) (D : Nat → Prop) : Prop := ∀ i o, l[i]? = some o → D i → ∀ j ∈ edgesOf o, D j
/-- Whoever has done i has done j. -/
def Pr (l : List Oper) (i j : Nat) : Prop := ∀ D, Down l D → D i → D j
def dstIs (l : List Oper) (j d : Nat) : Prop := ∃ o, l[j]? = some o ∧ o.dst = some d
def reads (l : List Oper) (j d : Nat) : Prop := ∃ o, l[j]? = some o ∧ d ∈ readsOf l o

structure SInv (l : List Oper) (pre : List Nat) (s : SS) : Prop where
  M : ∀ i, bitOf s.M i = true ↔ i ∈ pre
  bef : ∀ i ∈ pre, ∀ j, bitOf (numAt s.bef i) j = true → Pr l i j
  wr1 : ∀ d j, s.wr.get d = some j → j ∈ pre ∧ dstIs l j d
  wr2 : ∀ j ∈ pre, ∀ d, dstIs l j d → s.wr.get d = some j
  rd : ∀ i ∈ pre, ∀ d, reads l i d → bitOf (numAt s.rd d) i = true
  bnd : ∀ i ∈ pre, i < l.length

structure SFacts (l : List Oper) (pre : List Nat) (i : Nat) (o : Oper) : Prop where
  op : l[i]? = some o
  new : i ∉ pre
  edges : ∀ j ∈ edgesOf o, j ∈ pre
  ef : isEf o = true → ∀ j ∈ pre, Pr l i j
  rd : ∀ d ∈ readsOf l o, ∀ j ∈ pre, dstIs l j d → Pr l i j
  dst : ∀ d, o.dst = some d → ∀ j ∈ pre, ¬ dstIs l j d
  war : ∀ d, o.dst = some d → ∀ j ∈ pre, reads l j d → Pr l i j

theorem befOf_ok {l : List Oper} {pre : List Nat} {s : SS} (hs : SInv l pre s) : ∀ {es : List Nat} {b : Nat}, befOf s es = some b →
    (∀ j ∈ es, j ∈ pre) ∧ ∀ k, bitOf b k = true → ∃ j ∈ es, k = j ∨ Pr l j k
  | [], b, h => by injection h with h; subst h; exact ⟨by simp, by simp [bitOf_zero]⟩
  | j :: es, b, h => by
    replace h : (bif bitOf s.M j then (match befOf s es with | some b => some (Nat.lor (addBit b j) (numAt s.bef j)) | none => none) else none) = some b := h
    cases hj : bitOf s.M j with
    | false => rw [hj] at h; cases h
    | true =>
      rw [hj] at h
      simp only [cond_true] at h
      split at h
      case h_2 => cases h
      rename_i b' hb'
      injection h with h; subst h
      obtain ⟨h1, h2⟩ := befOf_ok hs hb'
      have hjp := (hs.M j).1 hj
      refine ⟨fun k hk => ?_, fun k hk => ?_⟩
      · rcases List.mem_cons.1 hk with rfl | hk
        · exact hjp
        · exact h1 k hk
      · rw [bitOf_or, bitOf_add] at hk
        simp only [Bool.or_eq_true, decide_eq_true_eq] at hk
        rcases hk with (rfl | hk) | hk
        · exact ⟨k, by simp, .inl rfl⟩
        · obtain ⟨j', h3, h4⟩ := h2 k hk
          exact ⟨j', by simp [h3], h4⟩
        · exact ⟨j, by simp, .inr (hs.bef j hjp k hk)⟩

theorem befOf_pr {l : List Oper} {pre : List Nat} {s : SS} (hs : SInv l pre s) {i : Nat} {o : Oper} (ho : l[i]? = some o) {b : Nat} (h : befOf s (edgesOf o) = some b) {k : Nat} (hk : bitOf b k = true) : Pr l i k := by
  obtain ⟨_, h2⟩ := befOf_ok hs h
  obtain ⟨j, h3, h4⟩ := h2 k hk
  intro D hD hi
  have hj := hD i o ho hi j h3
  rcases h4 with rfl | h4
  · exact hj
  · exact h4 D hD hj

theorem rdsOk_ok {s : SS} {b : Nat} : ∀ {ds : List Nat}, rdsOk s b ds = true → ∀ d ∈ ds, ∀ j, s.wr.get d = some j → bitOf b j = true
  | [], _, d, hd, _, _ => by cases hd
  | x :: ds, h, d, hd, j, hj => by
    replace h : (bif (match s.wr.get x with | some j => bitOf b j | none => true) then rdsOk s b ds else false) = true := h
    cases hx : (match s.wr.get x with | some j => bitOf b j | none => true) with
    | false => rw [hx] at h; cases h
    | true =>
      rw [hx] at h
      rcases List.mem_cons.1 hd with rfl | hd
      · rw [hj] at hx; exact hx
      · exact rdsOk_ok h d hd j hj

theorem addRd_keep {i : Nat} : ∀ {ds : List Nat} {t : T Nat} {d k : Nat}, bitOf (numAt t d) k = true → bitOf (numAt (addRd i ds t) d) k = true
  | [], _, _, _, h => h
  | x :: ds, t, d, k, h => by
    show bitOf (numAt (addRd i ds (t.set x (addBit (numAt t x) i))) d) k = true
    apply addRd_keep
    rw [numAt_set]
    split
    · rename_i e; subst e; rw [bitOf_add, h]; simp
    · exact h
theorem addRd_new {i : Nat} : ∀ {ds : List Nat} {t : T Nat} {d : Nat}, d ∈ ds → bitOf (numAt (addRd i ds t) d) i = true
  | [], _, _, h => by cases h
  | x :: ds, t, d, h => by
    show bitOf (numAt (addRd i ds (t.set x (addBit (numAt t x) i))) d) i = true
    rcases List.mem_cons.1 h with rfl | h
    · apply addRd_keep
      rw [numAt_set, if_pos rfl, bitOf_add]; simp
    · exact addRd_new h

theorem sstep_ok {l : List Oper} {pre : List Nat} {i : Nat} {s s' : SS} (hs : SInv l pre s) (h : sstep l i s = some s') : ∃ o, SFacts l pre i o ∧ SInv l (pre ++ [i]) s' := by
  unfold sstep at h
  split at h
  case h_1 => cases h
  rename_i o ho
  rw [nth_eq] at ho
  cases hM : bitOf s.M i with
  | true => simp [hM] at h
  | false =>
    simp only [hM, cond_false] at h
    have hnew : i ∉ pre := fun hc => by rw [(hs.M i).2 hc] at hM; cases hM
    split at h
    case h_1 => cases h
    rename_i b hb
    have hpr := fun {k : Nat} (hk : bitOf b k = true) => befOf_pr hs ho hb hk
    cases hc : (bif isEf o then subset s.M b else true) && rdsOk s b (readsOf l o) with
    | false => rw [hc] at h; cases h
    | true =>
      rw [hc] at h
      simp only [cond_true] at h
      simp only [Bool.and_eq_true] at hc
      obtain ⟨hc1, hc2⟩ := hc
      have hilt : i < l.length := (List.getElem?_eq_some_iff.1 ho).1
      have F1 : isEf o = true → ∀ j ∈ pre, Pr l i j := by
        intro he j hj
        rw [he] at hc1
        exact hpr (subset_ok hc1 ((hs.M j).2 hj))
      have F2 : ∀ d ∈ readsOf l o, ∀ j ∈ pre, dstIs l j d → Pr l i j := fun d hd j hj hj2 => hpr (rdsOk_ok hc2 d hd j (hs.wr2 j hj d hj2))
      have G1 : ∀ s1 : SS, s1.M = addBit s.M i → ∀ k, bitOf s1.M k = true ↔ k ∈ pre ++ [i] := by
        intro s1 h1 k
        rw [h1, bitOf_add, Bool.or_eq_true, decide_eq_true_eq, hs.M k, List.mem_append, List.mem_singleton, or_comm]
      have G2 : ∀ s1 : SS, s1.bef = s.bef.set i b → ∀ k ∈ pre ++ [i], ∀ j, bitOf (numAt s1.bef k) j = true → Pr l k j := by
        intro s1 h1 k hk j hj
        rw [h1, numAt_set] at hj
        split at hj
        · rename_i e; subst e; exact hpr hj
        · rename_i e
          rcases List.mem_append.1 hk with hk | hk
          · exact hs.bef k hk j hj
          · exact absurd (List.mem_singleton.1 hk) e
      have G3 : ∀ s1 : SS, s1.rd = addRd i (readsOf l o) s.rd → ∀ k ∈ pre ++ [i], ∀ d, reads l k d → bitOf (numAt s1.rd d) k = true := by
        intro s1 h1 k hk d ⟨o', ho', hd⟩
        rw [h1]
        rcases List.mem_append.1 hk with hk | hk
        · exact addRd_keep (hs.rd k hk d ⟨o', ho', hd⟩)
        · obtain rfl := List.mem_singleton.1 hk
          rw [ho] at ho'; cases ho'
          exact addRd_new hd
      have G4 : ∀ k ∈ pre ++ [i], k < l.length := by
        intro k hk
        rcases List.mem_append.1 hk with hk | hk
        · exact hs.bnd k hk
        · obtain rfl := List.mem_singleton.1 hk; exact hilt
      split at h
      · rename_i hd
        injection h with h
        refine ⟨o, ⟨ho, hnew, (befOf_ok hs hb).1, F1, F2, fun d h => (by rw [hd] at h; cases h), fun d h => (by rw [hd] at h; cases h)⟩, ⟨G1 s' (by rw [← h]), G2 s' (by rw [← h]), ?_, ?_, G3 s' (by rw [← h]), G4⟩⟩
        · intro d j hj
          rw [← h] at hj
          obtain ⟨h1, h2⟩ := hs.wr1 d j hj
          exact ⟨List.mem_append_left _ h1, h2⟩
        · intro j hj d hjd
          rw [← h]
          rcases List.mem_append.1 hj with hj | hj
          · exact hs.wr2 j hj d hjd
          · obtain rfl := List.mem_singleton.1 hj
            obtain ⟨o', h1, h2⟩ := hjd
            rw [ho] at h1; cases h1
            rw [hd] at h2; cases h2
      · rename_i d hd
        split at h
        case h_1 => cases h
        rename_i hwr
        cases hsub : subset (numAt s.rd d) b with
        | false => simp [hsub] at h
        | true =>
          simp only [hsub, cond_true] at h
          injection h with h
          refine ⟨o, ⟨ho, hnew, (befOf_ok hs hb).1, F1, F2, ?_, ?_⟩, ⟨G1 s' (by rw [← h]), G2 s' (by rw [← h]), ?_, ?_, G3 s' (by rw [← h]), G4⟩⟩
          · intro d' hd' j hj hjd
            rw [hd] at hd'; cases hd'
            rw [hs.wr2 j hj d hjd] at hwr; cases hwr
          · intro d' hd' j hj hjd
            rw [hd] at hd'; cases hd'
            exact hpr (subset_ok hsub (hs.rd j hj d hjd))
          · intro d' j hj
            rw [← h] at hj
            simp only [T.get_set] at hj
            split at hj
            · rename_i e; subst e
              cases hj
              exact ⟨by simp, o, ho, hd⟩
            · obtain ⟨h1, h2⟩ := hs.wr1 d' j hj
              exact ⟨List.mem_append_left _ h1, h2⟩
          · intro j hj d' hjd
            rw [← h]
            simp only [T.get_set]
            rcases List.mem_append.1 hj with hj | hj
            · have hne : d' ≠ d := by
                intro e; subst e
                rw [hs.wr2 j hj d' hjd] at hwr; cases hwr
              rw [if_neg hne]
              exact hs.wr2 j hj d' hjd
            · obtain rfl := List.mem_singleton.1 hj
              obtain ⟨o', h1, h2⟩ := hjd
              rw [ho] at h1; cases h1
              rw [hd] at h2; cases h2
              rw [if_pos rfl]

theorem SInv.empty (l : List Oper) : SInv l [] ⟨0, .leaf, .leaf, .leaf⟩ :=
  ⟨by simp [bitOf_zero], by simp, fun d j h => (by cases h), by simp, by simp, by simp⟩

theorem srun_ok {l : List Oper} : ∀ {rest pre : List Nat} {s s' : SS}, SInv l pre s → srun l rest s = some s' →
    SInv l (pre ++ rest) s' ∧ ∀ a i b, rest = a ++ i :: b → ∃ o, SFacts l (pre ++ a) i o
  | [], pre, s, s', hs, h => by
    injection h with h; subst h
    exact ⟨by simpa using hs, by intro a i b h; simp at h⟩
  | i :: rest, pre, s, s', hs, h => by
    rw [srun_cons] at h
    split at h
    case h_2 => cases h
    rename_i s1 h1
    obtain ⟨o, hf, hs1⟩ := sstep_ok hs h1
    obtain ⟨h2, h3⟩ := srun_ok hs1 h
    refine ⟨by simpa using h2, ?_⟩
    intro a j b hab
    cases a with
    | nil =>
      simp only [List.nil_append, List.cons.injEq] at hab
      obtain ⟨rfl, rfl⟩ := hab
      exact ⟨o, by simpa using hf⟩
    | cons x a =>
      simp only [List.cons_append, List.cons.injEq] at hab
      obtain ⟨rfl, rfl⟩ := hab
      obtain ⟨o', h4⟩ := h3 a j b rfl
      exact ⟨o', by simpa using h4⟩

end Go.Ev

/- Regions whose operations come in any order that their edges leave: the one order that is run. -/
namespace Go.Ev
variable {P : Program} {ρ : Rho} {H : AHeap} {w : World}

/-! The very same value, of more shapes. -/
noncomputable def sameO : Option Nat → Option Nat → Bool
  | some a, some b => Nat.beq a b
  | none, none => true
  | _, _ => false
theorem sameO_eq {a b : Option Nat} (h : sameO a b = true) : a = b := by
  unfold sameO at h
  split at h
  · rw [Nat.eq_of_beq_eq_true h]
  · rfl
  · cases h
noncomputable def sameV : AV → AV → Bool
  | .slice b i x n c z, .slice b' i' x' n' c' z' => Nat.beq b b' && Nat.beq i i' && Nat.beq x x' && Nat.beq n n' && sameO c c' && Nat.beq z z'
  | .nilslice, .nilslice => true
  | .map r, .map r' => sameO r r'
  | .nilFunc, .nilFunc => true
  | .nilIface, .nilIface => true
  | .func (.func f) [] cs, .func (.func g) [] ds => Nat.beq f g && sameSL cs ds
  | .iface t a, .iface u b => Nat.beq t u && sameA a b
  | .tuple a, .tuple b => sameSL a b
  | a, b => sameA a b
theorem sameV_eq {a b : AV} (h : sameV a b = true) : a = b := by
  unfold sameV at h
  split at h
  · simp only [Bool.and_eq_true] at h
    obtain ⟨⟨⟨⟨⟨h1, h2⟩, h3⟩, h4⟩, h5⟩, h6⟩ := h
    rw [Nat.eq_of_beq_eq_true h1, Nat.eq_of_beq_eq_true h2, Nat.eq_of_beq_eq_true h3, Nat.eq_of_beq_eq_true h4, sameO_eq h5, Nat.eq_of_beq_eq_true h6]
  · rfl
  · rw [sameO_eq h]
  · rfl
  · rfl
  · simp only [Bool.and_eq_true] at h
    rw [Nat.eq_of_beq_eq_true h.1, sameSL_eq h.2]
  · simp only [Bool.and_eq_true] at h
    rw [Nat.eq_of_beq_eq_true h.1, sameA_eq h.2]
  · rw [sameSL_eq h]
  · exact sameA_eq h
noncomputable def sameVL (a : List AV) : List AV → Bool :=
  List.rec (motive := fun _ => List AV → Bool) (fun b => List.rec (motive := fun _ => Bool) true (fun _ _ _ => false) b)
    (fun x _ ih b => List.rec (motive := fun _ => Bool) false (fun y bs _ => bif sameV x y then ih bs else false) b) a
theorem sameVL_eq : ∀ {a b : List AV}, sameVL a b = true → a = b
  | [], [], _ => rfl
  | [], _ :: _, h => by cases h
  | _ :: _, [], h => by cases h
  | x :: a, y :: b, h => by
    replace h : (bif sameV x y then sameVL a b else false) = true := h
    cases hs : sameV x y with
    | false => rw [hs] at h; cases h
    | true =>
      rw [hs] at h
      rw [sameV_eq hs, sameVL_eq (a := a) (b := b) h]
noncomputable def sameW : AV → AV → Bool
  | .agg a, .agg b => sameVL a b
  | .tuple a, .tuple b => sameVL a b
  | a, b => sameV a b
theorem sameW_eq {a b : AV} (h : sameW a b = true) : a = b := by
  unfold sameW at h
  split at h
  · rw [sameVL_eq h]
  · rw [sameVL_eq h]
  · exact sameV_eq h

structure DS where
  t : T AV
  H : AHeap
  base : AHeap
  hist : List (Nat × AHeap)
  nid : Nat

noncomputable def opdM (gl : Nat → Nat) (t : T AV) (mask : Nat) (x : Operand) : AV :=
  match x with
  | .tmp d => bif bitOf mask d then look t d else .bad
  | x => opd gl t x
noncomputable def maskOf (ds : List Nat) : Nat := List.rec (motive := fun _ => Nat) 0 (fun d _ ih => addBit ih d) ds
theorem bitOf_maskOf {d : Nat} : ∀ {ds : List Nat}, bitOf (maskOf ds) d = true ↔ d ∈ ds
  | [] => by show bitOf 0 d = true ↔ _; simp [bitOf_zero]
  | x :: ds => by
    show bitOf (addBit (maskOf ds) x) d = true ↔ _
    rw [bitOf_add, Bool.or_eq_true, decide_eq_true_eq, bitOf_maskOf, List.mem_cons]

theorem opdM_ok {gl : Nat → Nat} {t : T AV} {a : Act} {ds : List Nat} (hg : GRel gl ρ) (ht : ∀ d ∈ ds, R ρ (look t d) (a.tmps.getD d undef)) (x : Operand) : R ρ (opdM gl t (maskOf ds) x) (a.eval x) := by
  cases x with
  | tmp i =>
    show R ρ (bif bitOf (maskOf ds) i then look t i else .bad) _
    cases hb : bitOf (maskOf ds) i with
    | false => simp [R]
    | true => exact ht i (bitOf_maskOf.1 hb)
  | const v => exact cv_ok v
  | global g =>
    simp only [opdM, opd, Act.eval]
    cases h : gl g with
    | zero => simp [R]
    | succ m =>
      obtain ⟨I, h1, h2, h3, h4⟩ := hg g (by omega)
      simp only [R]
      exact ⟨I, h1, by omega, by omega, by omega, by rw [h2, h3.1, h3.2]⟩
  | func f => simp [opdM, opd, Act.eval, R, RL]

noncomputable def opnds (gl : Nat → Nat) (t : T AV) (o : Oper) : Operand → AV := opdM gl t (maskOf (tmpsOf o.op.operands.toList))

noncomputable def winOk (P : Program) (O : Orc) (e : Operand → AV) (o : Oper) (bi : Nat) (v : AV) (hist : List (Nat × AHeap)) : Bool :=
  List.rec (motive := fun _ => Bool) true (fun p _ ih => bif bitOf bi p.1 then true else (match rdO P O p.2 e o with | some v' => bif sameW v v' then ih else false | none => false)) hist

noncomputable def dput (nt : Nat) (s : DS) (dst : Option Nat) (v : AV) (H base : AHeap) (hist : List (Nat × AHeap)) (nid : Nat) : Option DS :=
  match putA nt s.t dst v with
  | some t' => some ⟨t', H, base, hist, nid⟩
  | none => none

noncomputable def dact (P : Program) (gl : Nat → Nat) (O : Orc) (call : CallF) (befs : T Nat) (nt lim : Nat) (i : Nat) (o : Oper) (s : DS) : Option DS :=
  match kindOf o.op with
  | .rd =>
    match rdO P O s.base (opnds gl s.t o) o with
    | some v => bif winOk P O (opnds gl s.t o) o (numAt befs i) v s.hist then dput nt s o.dst v s.H s.base s.hist s.nid else none
    | none => none
  | .al =>
    match alO P O (opnds gl s.t o) o with
    | some m => bif Nat.blt s.nid lim then dput nt s o.dst (m.val s.nid) ⟨s.H.next, s.H.blks.set s.nid m.obj⟩ s.base s.hist (Nat.succ s.nid) else none
    | none => none
  | .ef =>
    match efO P O call s.H (opnds gl s.t o) o with
    | some (v, H') => dput nt s o.dst v H' H' ((i, s.base) :: s.hist) s.nid
    | none => none

noncomputable def dstep (P : Program) (gl : Nat → Nat) (O : Orc) (call : CallF) (l : List Oper) (befs : T Nat) (nt lim : Nat) (i : Nat) (s : DS) : Option DS :=
  match nth l i with
  | none => none
  | some o =>
    match wantedA l s.t o.guard with
    | none => none
    | some false => bif isEf o then dput nt s o.dst undefA s.H s.H ((i, s.base) :: s.hist) s.nid else dput nt s o.dst undefA s.H s.base s.hist s.nid
    | some true => dact P gl O call befs nt lim i o s

noncomputable def drun (P : Program) (gl : Nat → Nat) (O : Orc) (call : CallF) (l : List Oper) (befs : T Nat) (nt lim : Nat) (rest : List Nat) : DS → Option DS :=
  List.rec (motive := fun _ => DS → Option DS) (fun s => some s) (fun i _ ih s => match dstep P gl O call l befs nt lim i s with | some s' => ih s' | none => none) rest

section
variable {gl : Nat → Nat} {O : Orc} {call : CallF} {l : List Oper} {befs : T Nat} {nt lim : Nat}

theorem drun_nil (s : DS) : drun P gl O call l befs nt lim [] s = some s := rfl
theorem drun_cons (i : Nat) (rest : List Nat) (s : DS) : drun P gl O call l befs nt lim (i :: rest) s = (dstep P gl O call l befs nt lim i s).bind (drun P gl O call l befs nt lim rest) := by
  show (match dstep P gl O call l befs nt lim i s with | some s' => drun P gl O call l befs nt lim rest s' | none => none) = _
  cases dstep P gl O call l befs nt lim i s <;> rfl
theorem drun_append : ∀ (a b : List Nat) (s : DS), drun P gl O call l befs nt lim (a ++ b) s = (drun P gl O call l befs nt lim a s).bind (drun P gl O call l befs nt lim b)
  | [], b, s => rfl
  | i :: a, b, s => by
    rw [List.cons_append, drun_cons, drun_cons, Option.bind_assoc]
    congr 1
    funext s'
    exact drun_append a b s'
theorem drun_split {a b : List Nat} {s s' : DS} (h : drun P gl O call l befs nt lim (a ++ b) s = some s') : ∃ s1, drun P gl O call l befs nt lim a s = some s1 ∧ drun P gl O call l befs nt lim b s1 = some s' := by
  rw [drun_append] at h
  exact Option.bind_eq_some_iff.1 h
theorem drun_one {i : Nat} {s : DS} : drun P gl O call l befs nt lim [i] s = dstep P gl O call l befs nt lim i s := by
  rw [drun_cons]
  show Option.bind _ (fun s => some s) = _
  cases dstep P gl O call l befs nt lim i s <;> rfl

/-- What one step does. -/
inductive DStep (P : Program) (gl : Nat → Nat) (O : Orc) (call : CallF) (l : List Oper) (befs : T Nat) (lim : Nat) (i : Nat) (o : Oper) (s : DS) : AV → AHeap → AHeap → List (Nat × AHeap) → Nat → Prop
  | off (hw : wantedA l s.t o.guard = some false) (he : isEf o = false) : DStep P gl O call l befs lim i o s undefA s.H s.base s.hist s.nid
  | offEf (hw : wantedA l s.t o.guard = some false) (he : isEf o = true) : DStep P gl O call l befs lim i o s undefA s.H s.H ((i, s.base) :: s.hist) s.nid
  | rd {v : AV} (hw : wantedA l s.t o.guard = some true) (hk : kindOf o.op = .rd) (hv : rdO P O s.base (opnds gl s.t o) o = some v) (hwin : winOk P O (opnds gl s.t o) o (numAt befs i) v s.hist = true) :
      DStep P gl O call l befs lim i o s v s.H s.base s.hist s.nid
  | al {m : Made} (hw : wantedA l s.t o.guard = some true) (hk : kindOf o.op = .al) (hm : alO P O (opnds gl s.t o) o = some m) (hl : s.nid < lim) :
      DStep P gl O call l befs lim i o s (m.val s.nid) ⟨s.H.next, s.H.blks.set s.nid m.obj⟩ s.base s.hist (s.nid + 1)
  | ef {v : AV} {H' : AHeap} (hw : wantedA l s.t o.guard = some true) (hk : kindOf o.op = .ef) (hv : efO P O call s.H (opnds gl s.t o) o = some (v, H')) :
      DStep P gl O call l befs lim i o s v H' H' ((i, s.base) :: s.hist) s.nid

theorem dput_some {s s' : DS} {dst : Option Nat} {v : AV} {H base : AHeap} {hist : List (Nat × AHeap)} {nid : Nat} (h : dput nt s dst v H base hist nid = some s') :
    putA nt s.t dst v = some s'.t ∧ s'.H = H ∧ s'.base = base ∧ s'.hist = hist ∧ s'.nid = nid := by
  unfold dput at h
  split at h
  case h_2 => cases h
  rename_i t' ht
  injection h with h; subst h
  exact ⟨ht, rfl, rfl, rfl, rfl⟩

theorem dstep_ok {i : Nat} {s s' : DS} (h : dstep P gl O call l befs nt lim i s = some s') :
    ∃ o v, l[i]? = some o ∧ putA nt s.t o.dst v = some s'.t ∧ DStep P gl O call l befs lim i o s v s'.H s'.base s'.hist s'.nid := by
  unfold dstep at h
  split at h
  case h_1 => cases h
  rename_i o ho
  rw [nth_eq] at ho
  split at h
  case h_1 => cases h
  · rename_i hw
    cases he : isEf o with
    | false =>
      rw [he] at h
      obtain ⟨h1, h2, h3, h4, h5⟩ := dput_some h
      refine ⟨o, undefA, ho, h1, ?_⟩
      rw [h2, h3, h4, h5]
      exact .off hw he
    | true =>
      rw [he] at h
      obtain ⟨h1, h2, h3, h4, h5⟩ := dput_some h
      refine ⟨o, undefA, ho, h1, ?_⟩
      rw [h2, h3, h4, h5]
      exact .offEf hw he
  · rename_i hw
    unfold dact at h
    split at h
    · rename_i hk
      split at h
      case h_2 => cases h
      rename_i v hv
      cases hwin : winOk P O (opnds gl s.t o) o (numAt befs i) v s.hist with
      | false => rw [hwin] at h; cases h
      | true =>
        rw [hwin] at h
        obtain ⟨h1, h2, h3, h4, h5⟩ := dput_some h
        refine ⟨o, v, ho, h1, ?_⟩
        rw [h2, h3, h4, h5]
        exact .rd hw hk hv hwin
    · rename_i hk
      split at h
      case h_2 => cases h
      rename_i m hm
      cases hl : Nat.blt s.nid lim with
      | false => rw [hl] at h; cases h
      | true =>
        rw [hl] at h
        obtain ⟨h1, h2, h3, h4, h5⟩ := dput_some h
        refine ⟨o, m.val s.nid, ho, h1, ?_⟩
        rw [h2, h3, h4, h5]
        exact .al hw hk hm (by simpa [Nat.blt_eq] using hl)
    · rename_i hk
      split at h
      case h_2 => cases h
      rename_i v H' hv
      obtain ⟨h1, h2, h3, h4, h5⟩ := dput_some h
      refine ⟨o, v, ho, h1, ?_⟩
      rw [h2, h3, h4, h5]
      exact .ef hw hk hv

theorem putA_look {t t' : T AV} {dst : Option Nat} {v : AV} {d : Nat} (h : putA nt t dst v = some t') : look t' d = if dst = some d then v else look t d := by
  unfold putA at h
  split at h
  · injection h with h; subst h; simp
  · rename_i d'
    cases hb : Nat.blt d' nt with
    | false => simp [hb] at h
    | true =>
      simp only [hb, cond_true] at h
      injection h with h; subst h
      by_cases e : d = d'
      · subst e; rw [look_set_same, if_pos rfl]
      · rw [look_set_ne _ _ e, if_neg (by intro hh; cases hh; exact e rfl)]
theorem putA_lt {t t' : T AV} {dst : Option Nat} {v : AV} {d : Nat} (h : putA nt t dst v = some t') (hd : dst = some d) : d < nt := by
  subst hd
  unfold putA at h
  simp only at h
  cases hb : Nat.blt d nt with
  | false => simp [hb] at h
  | true => simpa [Nat.blt_eq] using hb

/-- A temporary that no operation of a stretch writes. -/
theorem drun_frame {d : Nat} : ∀ {rest : List Nat} {s s' : DS}, drun P gl O call l befs nt lim rest s = some s' → (∀ i ∈ rest, ¬ dstIs l i d) → look s'.t d = look s.t d
  | [], s, s', h, _ => by injection h with h; rw [h]
  | i :: rest, s, s', h, hd => by
    rw [drun_cons] at h
    obtain ⟨s1, h1, h2⟩ := Option.bind_eq_some_iff.1 h
    obtain ⟨o, v, ho, hp, _⟩ := dstep_ok h1
    rw [drun_frame h2 (fun j hj => hd j (by simp [hj])), putA_look hp, if_neg]
    intro e
    exact hd i (by simp) ⟨o, ho, e⟩

theorem drun_nid : ∀ {rest : List Nat} {s s' : DS}, drun P gl O call l befs nt lim rest s = some s' → s.nid ≤ s'.nid
  | [], s, s', h => by injection h with h; rw [h]; exact Nat.le_refl _
  | i :: rest, s, s', h => by
    rw [drun_cons] at h
    obtain ⟨s1, h1, h2⟩ := Option.bind_eq_some_iff.1 h
    obtain ⟨o, v, ho, hp, hs⟩ := dstep_ok h1
    refine Nat.le_trans ?_ (drun_nid h2)
    generalize s1.H = a1, s1.base = a2, s1.hist = a3, s1.nid = a4 at hs
    cases hs <;> omega
end

end Go.Ev

/- Regions whose operations come in any order that their edges leave: every order does what the one order does. -/
namespace Go.Ev
variable {P : Program} {ρ : Rho} {H : AHeap} {w : World}

theorem wantedA_ok' {ops : Array Oper} {t : T AV} {a : Act} {o : Oper} {b : Bool} (ht : ∀ d, guardD ops.toList o.guard = some d → R ρ (look t d) (a.tmps.getD d undef))
    (hlen : ∀ j, j < ops.size → ∀ d, ((ops[j]?).bind (·.dst)) = some d → d < a.tmps.size)
    (h : wantedA ops.toList t o.guard = some b) : Region.wanted o (yielded ops a.tmps) = b := by
  unfold wantedA at h
  unfold Region.wanted
  split at h
  · rename_i hg
    injection h with h; subst h
    rw [hg]
  · rename_i j want hg
    rw [hg]
    simp only
    rw [nth_eq] at h
    split at h
    case h_2 => cases h
    rename_i oj hj
    have hj' : ops[j]? = some oj := by simpa using hj
    split at h
    case h_2 => cases h
    rename_i d hd
    have hjlt : j < ops.size := (Array.getElem?_eq_some_iff.1 hj').1
    have hdlt := hlen j hjlt d (by rw [hj']; exact hd)
    have hR := ht d (by unfold guardD; rw [hg]; simp only; rw [nth_eq, hj]; exact hd)
    have hget : a.tmps.getD d undef = a.tmps[d] := by simp [hdlt]
    rw [hget] at hR
    unfold yielded
    rw [hj']
    simp only [Option.bind_some, hd]
    rw [Array.getElem?_eq_getElem hdlt]
    split at h
    · rename_i bb hl
      rw [hl] at hR
      simp only [R] at hR
      rw [hR]
      cases h; rfl
    · cases h
    · cases h
    · cases h
    · cases h
    · rename_i hl
      rw [hl] at hR
      simp only [R] at hR
      obtain ⟨l, hl2, _⟩ := hR
      rw [hl2]
      cases h; rfl
    · cases h

/-! A block that is there, and comes to be known. -/
def Early (ρ : Rho) (w : World) (id : Nat) (o : AObj) : Prop := ∃ I, ρ id 0 = some I ∧ (∀ x, x ≠ 0 → ρ id x = none) ∧ BRel ρ 0 I o w.heap
def Fresh (lim : Nat) (s : DS) : Prop := lim ≤ s.H.next ∧ ∀ b, s.nid ≤ b → b < lim → s.H.blks.get b = none
def MadeAt (P : Program) (gl : Nat → Nat) (O : Orc) (l : List Oper) (i : Nat) (s : DS) (m : Made) : Prop :=
  ∃ o, l[i]? = some o ∧ wantedA l s.t o.guard = some true ∧ kindOf o.op = .al ∧ alO P O (opnds gl s.t o) o = some m

theorem HRel.insert (hr : HRel ρ H w) {id : Nat} {o : AObj} (hlt : id < H.next) (he : Early ρ w id o) : HRel ρ ⟨H.next, H.blks.set id o⟩ w := by
  obtain ⟨I, h1, h2, h3⟩ := he
  refine ⟨hr.inj, hr.lt, ?_, ?_⟩
  · intro b x J p hb hg
    by_cases e : b = id
    · subst e
      rw [T.get_set_same] at hg; cases hg
      by_cases e2 : x = 0
      · subst e2; rw [h1] at hb; cases hb; exact h3
      · rw [h2 x e2] at hb; cases hb
    · rw [T.get_set_ne _ _ e] at hg
      exact hr.blk b x J p hb hg
  · intro b hb
    have hb' : H.next ≤ b := hb
    show (H.blks.set id o).get b = none
    rw [T.get_set_ne _ _ (by omega)]
    exact hr.top b hb'

section
variable {gl : Nat → Nat} {O : Orc} {call : CallF} {l : List Oper} {befs : T Nat} {nt lim : Nat}

theorem isEf_ef {o : Oper} (h : kindOf o.op = .ef) : isEf o = true := by unfold isEf; rw [h]
theorem isEf_al {o : Oper} (h : kindOf o.op = .al) : isEf o = false := by unfold isEf; rw [h]
theorem isEf_rd {o : Oper} (h : kindOf o.op = .rd) : isEf o = false := by unfold isEf; rw [h]

theorem insert_run : ∀ {r1 : List Nat} {s s' : DS}, drun P gl O call l befs nt lim r1 s = some s' → (∀ i ∈ r1, ∀ o, l[i]? = some o → isEf o = false) → HRel ρ s.H w → Fresh lim s →
    (∀ p i q sa m, r1 = p ++ i :: q → drun P gl O call l befs nt lim p s = some sa → MadeAt P gl O l i sa m → Early ρ w sa.nid m.obj) →
    HRel ρ s'.H w ∧ Fresh lim s' ∧ s'.H.next = s.H.next ∧ ∀ b, b < s.nid → s'.H.blks.get b = s.H.blks.get b
  | [], s, s', h, _, hr, hf, _ => by injection h with h; subst h; exact ⟨hr, hf, rfl, fun _ _ => rfl⟩
  | i :: r1, s, s', h, hne, hr, hf, hal => by
    rw [drun_cons] at h
    obtain ⟨s1, h1, h2⟩ := Option.bind_eq_some_iff.1 h
    have step : HRel ρ s1.H w ∧ Fresh lim s1 ∧ s1.H.next = s.H.next ∧ s.nid ≤ s1.nid ∧ ∀ b, b < s.nid → s1.H.blks.get b = s.H.blks.get b := by
      obtain ⟨o, v, ho, hp, hs⟩ := dstep_ok h1
      have hno := hne i (by simp) o ho
      unfold Fresh
      generalize s1.H = a1, s1.base = a2, s1.hist = a3, s1.nid = a4 at hs ⊢
      cases hs with
      | off => exact ⟨hr, hf, rfl, Nat.le_refl _, fun _ _ => rfl⟩
      | offEf _ he => rw [hno] at he; cases he
      | rd => exact ⟨hr, hf, rfl, Nat.le_refl _, fun _ _ => rfl⟩
      | ef _ hk => rw [isEf_ef hk] at hno; cases hno
      | al hw hk hm hl =>
        rename_i m
        have hE := hal [] i r1 s m rfl rfl ⟨o, ho, hw, hk, hm⟩
        refine ⟨hr.insert (Nat.lt_of_lt_of_le hl hf.1) hE, ⟨hf.1, ?_⟩, rfl, by omega, ?_⟩
        · intro b hb hb2
          show (s.H.blks.set s.nid m.obj).get b = none
          rw [T.get_set_ne _ _ (by omega)]
          exact hf.2 b (by omega) hb2
        · intro b hb
          show (s.H.blks.set s.nid m.obj).get b = _
          rw [T.get_set_ne _ _ (by omega)]
    obtain ⟨g1, g2, g3, g4, g5⟩ := step
    obtain ⟨k1, k2, k3, k4⟩ := insert_run h2 (fun j hj => hne j (by simp [hj])) g1 g2 (by
      intro p j q sa m hsp hd hma
      refine hal (i :: p) j q sa m (by rw [hsp]; rfl) ?_ hma
      rw [drun_cons, h1]; exact hd)
    exact ⟨k1, k2, k3.trans g3, fun b hb => (k4 b (by omega)).trans (g5 b hb)⟩

theorem win_run {e : Operand → AV} {op : Oper} {bi : Nat} {v : AV} : ∀ {r1 : List Nat} {s s' : DS}, drun P gl O call l befs nt lim r1 s = some s' →
    (∀ i ∈ r1, ∀ o, l[i]? = some o → isEf o = true → bitOf bi i = false) → rdO P O s'.base e op = some v → winOk P O e op bi v s'.hist = true →
    rdO P O s.base e op = some v ∧ winOk P O e op bi v s.hist = true
  | [], s, s', h, _, h1, h2 => by injection h with h; subst h; exact ⟨h1, h2⟩
  | i :: r1, s, s', h, hb, h1, h2 => by
    rw [drun_cons] at h
    obtain ⟨s1, g1, g2⟩ := Option.bind_eq_some_iff.1 h
    obtain ⟨k1, k2⟩ := win_run g2 (fun j hj => hb j (by simp [hj])) h1 h2
    obtain ⟨o, u, ho, hp, hs⟩ := dstep_ok g1
    have hef : isEf o = true → rdO P O s.base e op = some v ∧ winOk P O e op bi v s.hist = true ∨ s1.hist ≠ (i, s.base) :: s.hist := by
      intro he
      by_cases hh : s1.hist = (i, s.base) :: s.hist
      · left
        rw [hh] at k2
        have hbit := hb i (by simp) o ho he
        replace k2 : (bif bitOf bi i then true else (match rdO P O s.base e op with | some v' => bif sameW v v' then winOk P O e op bi v s.hist else false | none => false)) = true := k2
        rw [hbit] at k2
        simp only [cond_false] at k2
        split at k2
        case h_2 => cases k2
        rename_i v' hv'
        cases hsm : sameW v v' with
        | false => rw [hsm] at k2; cases k2
        | true =>
          rw [hsm] at k2
          rw [sameW_eq hsm]
          rw [sameW_eq hsm] at k2
          exact ⟨hv', k2⟩
      · exact .inr hh
    generalize hb1 : s1.H = a1, hb2 : s1.base = a2, hb3 : s1.hist = a3, hb4 : s1.nid = a4 at hs k1 k2 hef
    cases hs with
    | off => exact ⟨k1, k2⟩
    | rd => exact ⟨k1, k2⟩
    | al => exact ⟨k1, k2⟩
    | offEf _ he => exact (hef he).resolve_right (by simp)
    | ef _ hk => exact (hef (isEf_ef hk)).resolve_right (by simp)

theorem made_nid {i : Nat} {s s' : DS} {m : Made} (h : dstep P gl O call l befs nt lim i s = some s') (hm : MadeAt P gl O l i s m) : s'.nid = s.nid + 1 ∧ s.nid < lim := by
  obtain ⟨o, v, ho, hp, hs⟩ := dstep_ok h
  obtain ⟨o', ho', hw, hk, hm⟩ := hm
  rw [ho] at ho'; cases ho'
  generalize s'.H = a1, s'.base = a2, s'.hist = a3, s'.nid = a4 at hs
  cases hs with
  | off hw' => rw [hw] at hw'; cases hw'
  | offEf hw' => rw [hw] at hw'; cases hw'
  | rd _ hk' => rw [hk] at hk'; cases hk'
  | ef _ hk' => rw [hk] at hk'; cases hk'
  | al _ _ _ hl => exact ⟨rfl, hl⟩
end

theorem split_uniq : ∀ {p p' : List Nat} {i : Nat} {s s' : List Nat}, p ++ i :: s = p' ++ i :: s' → i ∉ p → i ∉ p' → p = p' ∧ s = s'
  | [], [], i, s, s', h, _, _ => by simp at h; exact ⟨rfl, h⟩
  | [], x :: p', i, s, s', h, _, h2 => by simp at h; exact absurd h.1 (fun e => h2 (by simp [e]))
  | x :: p, [], i, s, s', h, h1, _ => by simp at h; exact absurd h.1 (fun e => h1 (by simp [e]))
  | x :: p, y :: p', i, s, s', h, h1, h2 => by
    simp only [List.cons_append, List.cons.injEq] at h
    obtain ⟨g1, g2⟩ := split_uniq h.2 (fun c => h1 (by simp [c])) (fun c => h2 (by simp [c]))
    exact ⟨by rw [h.1, g1], g2⟩
theorem split_two : ∀ {p p' : List Nat} {i k : Nat} {s s' : List Nat}, p ++ i :: s = p' ++ k :: s' → i ≠ k → (∃ z, p' = p ++ i :: z) ∨ ∃ z, p = p' ++ k :: z
  | [], [], i, k, s, s', h, hne => by simp at h; exact absurd h.1 hne
  | [], x :: p', i, k, s, s', h, _ => by simp at h; exact .inl ⟨p', by simp [h.1]⟩
  | x :: p, [], i, k, s, s', h, _ => by simp at h; exact .inr ⟨p, by simp [h.1]⟩
  | x :: p, y :: p', i, k, s, s', h, hne => by
    simp only [List.cons_append, List.cons.injEq] at h
    rcases split_two h.2 hne with ⟨z, hz⟩ | ⟨z, hz⟩
    · exact .inl ⟨z, by simp [h.1, hz]⟩
    · exact .inr ⟨z, by simp [h.1, hz]⟩

/-- What the region is run with. -/
structure Ctx (P : Program) (gl : Nat → Nat) (O : Orc) (wB : World) (M : Nat → Prop) (call : CallF) (ops : Array Oper) (befs : T Nat) (nt lim : Nat) (ord : List Nat) (S0 Sn : DS) (ρ0 : Rho) (H0 : AHeap) (w0 : World) : Prop where
  hn : NoGo P
  hcall : CallOk P gl call
  hd : dstsOk ops nt
  facts : ∀ a i b, ord = a ++ i :: b → ∃ o, SFacts ops.toList a i o
  bef : ∀ i ∈ ord, ∀ j, bitOf (numAt befs i) j = true → Pr ops.toList i j
  full : ∀ i, i < ops.size → i ∈ ord
  run : drun P gl O call ops.toList befs nt lim ord S0 = some Sn
  hr0 : HRel ρ0 H0 w0
  hO : OrcOk P gl wB M O
  hG : Good gl wB M ρ0 H0 w0
  nid0 : H0.next ≤ S0.nid

structure Core (P : Program) (gl : Nat → Nat) (O : Orc) (call : CallF) (ops : Array Oper) (befs : T Nat) (nt lim : Nat) (ord : List Nat) (S0 : DS) (ρ0 : Rho) (H0 : AHeap) (w0 : World) (ds : List Deferred)
    (D : Nat → Prop) (a : Act) (w : World) (q r : List Nat) (Sq : DS) (ρ : Rho) : Prop where
  split : ord = q ++ r
  runq : drun P gl O call ops.toList befs nt lim q S0 = some Sq
  base : Sq.base = Sq.H
  qD : ∀ i ∈ q, D i
  rD : ∀ i ∈ r, D i → ∀ o, ops.toList[i]? = some o → isEf o = false
  st : Step ρ0 H0 w0 ρ Sq.H w
  hg : GRel gl ρ
  fresh : Fresh lim Sq
  al : ∀ p i s Sa m, r = p ++ i :: s → drun P gl O call ops.toList befs nt lim p Sq = some Sa → MadeAt P gl O ops.toList i Sa m →
    (D i → Early ρ w Sa.nid m.obj) ∧ (¬ D i → ∀ x, ρ Sa.nid x = none)
  wr : ∀ p i s Sa, ord = p ++ i :: s → D i → drun P gl O call ops.toList befs nt lim (p ++ [i]) S0 = some Sa → ∀ d, dstIs ops.toList i d → R ρ (look Sa.t d) (a.tmps.getD d undef)
  un : ∀ d, (∀ i ∈ ord, dstIs ops.toList i d → ¬ D i) → R ρ (look S0.t d) (a.tmps.getD d undef)
  size : nt ≤ a.tmps.size
  dfs : a.defers = ds

def DInv (P : Program) (gl : Nat → Nat) (O : Orc) (call : CallF) (ops : Array Oper) (befs : T Nat) (nt lim : Nat) (ord : List Nat) (S0 : DS) (ρ0 : Rho) (H0 : AHeap) (w0 : World) (ds : List Deferred)
    (D : Nat → Prop) (a : Act) (w : World) : Prop :=
  Down ops.toList D ∧ ∃ q r Sq ρ, Core P gl O call ops befs nt lim ord S0 ρ0 H0 w0 ds D a w q r Sq ρ

section
variable {gl : Nat → Nat} {O : Orc} {call : CallF} {wB : World} {M : Nat → Prop} {ops : Array Oper} {befs : T Nat} {nt lim : Nat} {ord : List Nat} {S0 Sn : DS} {ρ0 : Rho} {H0 : AHeap} {w0 : World} {ds : List Deferred}
  {D : Nat → Prop} {a : Act} {q r : List Nat} {Sq : DS}

theorem Ctx.dst_uniq (C : Ctx P gl O wB M call ops befs nt lim ord S0 Sn ρ0 H0 w0) {i k d : Nat} (hi : i ∈ ord) (hk : k ∈ ord) (hne : i ≠ k) (h1 : dstIs ops.toList i d) (h2 : dstIs ops.toList k d) : False := by
  obtain ⟨p, s, hsp⟩ := List.append_of_mem hi
  have hk' := hk
  rw [hsp] at hk'
  rcases List.mem_append.1 hk' with hk | hk
  · obtain ⟨o, f⟩ := C.facts p i s hsp
    obtain ⟨o', ho', hd⟩ := h1
    rw [f.op] at ho'; cases ho'
    exact f.dst d hd k hk h2
  · rcases List.mem_cons.1 hk with rfl | hk
    · exact hne rfl
    · obtain ⟨x, y, hxy⟩ := List.append_of_mem hk
      obtain ⟨o, f⟩ := C.facts (p ++ i :: x) k y (by rw [hsp, hxy]; simp)
      obtain ⟨o', ho', hd⟩ := h2
      rw [f.op] at ho'; cases ho'
      exact f.dst d hd i (by simp) h1

theorem Ctx.front (C : Ctx P gl O wB M call ops befs nt lim ord S0 Sn ρ0 H0 w0) {p s : List Nat} (h : ord = p ++ s) : ∃ Sp, drun P gl O call ops.toList befs nt lim p S0 = some Sp ∧ drun P gl O call ops.toList befs nt lim s Sp = some Sn := by
  have := C.run
  rw [h] at this
  exact drun_split this

/-- What an operation that is about to run reads. -/
theorem Core.read (C : Ctx P gl O wB M call ops befs nt lim ord S0 Sn ρ0 H0 w0) (hD : Down ops.toList D) (c : Core P gl O call ops befs nt lim ord S0 ρ0 H0 w0 ds D a w q r Sq ρ) {p s : List Nat} {i : Nat} {o : Oper} {Sa : DS}
    (hsp : ord = p ++ i :: s) (f : SFacts ops.toList p i o) (hi : ¬ D i) (hpr : ∀ j, j ≠ i → Pr ops.toList i j → D j) (hS : drun P gl O call ops.toList befs nt lim p S0 = some Sa) :
    ∀ d ∈ readsOf ops.toList o, R ρ (look Sa.t d) (a.tmps.getD d undef) := by
  intro d hd
  by_cases hw : ∃ j ∈ p, dstIs ops.toList j d
  · obtain ⟨j, hj, hjd⟩ := hw
    have hji : j ≠ i := fun e => f.new (e ▸ hj)
    have hDj := hpr j hji (f.rd d hd j hj hjd)
    obtain ⟨p1, p2, hp⟩ := List.append_of_mem hj
    have hS2 : drun P gl O call ops.toList befs nt lim ((p1 ++ [j]) ++ p2) S0 = some Sa := by rw [← hS, hp]; simp
    obtain ⟨Sj, h1, h2⟩ := drun_split hS2
    have h3 := c.wr p1 j (p2 ++ i :: s) Sj (by rw [hsp, hp]; simp) hDj h1 d hjd
    rw [drun_frame h2]
    · exact h3
    · intro k hk hkd
      refine C.dst_uniq (i := j) (k := k) (d := d) (by rw [hsp]; simp [hj]) (by rw [hsp, hp]; simp [hk]) ?_ hjd hkd
      intro e
      subst e
      obtain ⟨x, y, hxy⟩ := List.append_of_mem hk
      obtain ⟨o', f'⟩ := C.facts (p1 ++ j :: x) j (y ++ i :: s) (by rw [hsp, hp, hxy]; simp)
      exact f'.new (by simp)
  · rw [drun_frame hS (fun j hj hjd => hw ⟨j, hj, hjd⟩)]
    refine c.un d ?_
    intro k hk hkd hDk
    rw [hsp] at hk
    rcases List.mem_append.1 hk with hk | hk
    · exact hw ⟨k, hk, hkd⟩
    · rcases List.mem_cons.1 hk with rfl | hk
      · exact hi hDk
      · obtain ⟨x, y, hxy⟩ := List.append_of_mem hk
        obtain ⟨o', f'⟩ := C.facts (p ++ i :: x) k y (by rw [hsp, hxy]; simp)
        obtain ⟨o2, h1, h2⟩ := hkd
        rw [f'.op] at h1; cases h1
        exact hi (f'.war d h2 i (by simp) ⟨o, f.op, hd⟩ D hD hDk)

theorem put_getD {a : Act} {dst : Option Nat} {u : Value} {d : Nat} (h : dst ≠ some d) : (a.put dst u).tmps.getD d undef = a.tmps.getD d undef := by
  cases dst with
  | none => rfl
  | some e =>
    have : e ≠ d := fun x => h (by rw [x])
    simp [Act.put, Array.getElem?_setIfInBounds_ne this]
theorem put_getD_same {a : Act} {d : Nat} {u : Value} (h : d < a.tmps.size) : (a.put (some d) u).tmps.getD d undef = u := by
  simp [Act.put, h]
theorem put_size {a : Act} {dst : Option Nat} {u : Value} : (a.put dst u).tmps.size = a.tmps.size ∧ (a.put dst u).defers = a.defers := by
  cases dst <;> simp [Act.put]

/-- The temporaries behind an operation that has run. -/
theorem Core.wrote (C : Ctx P gl O wB M call ops befs nt lim ord S0 Sn ρ0 H0 w0) (c : Core P gl O call ops befs nt lim ord S0 ρ0 H0 w0 ds D a w q r Sq ρ) {p s : List Nat} {i : Nat} {o : Oper} {Sa S1 : DS} {v : AV} {u : Value} {ρ' : Rho}
    (hsp : ord = p ++ i :: s) (f : SFacts ops.toList p i o) (hi : ¬ D i) (hS : drun P gl O call ops.toList befs nt lim p S0 = some Sa) (h1 : dstep P gl O call ops.toList befs nt lim i Sa = some S1)
    (hp : putA nt Sa.t o.dst v = some S1.t) (hx : Ext ρ ρ') (hu : R ρ' v u) :
    (∀ p k s Sa, ord = p ++ k :: s → (k = i ∨ D k) → drun P gl O call ops.toList befs nt lim (p ++ [k]) S0 = some Sa → ∀ d, dstIs ops.toList k d → R ρ' (look Sa.t d) ((a.put o.dst u).tmps.getD d undef)) ∧
    (∀ d, (∀ k ∈ ord, dstIs ops.toList k d → ¬ (k = i ∨ D k)) → R ρ' (look S0.t d) ((a.put o.dst u).tmps.getD d undef)) := by
  have hmem : i ∈ ord := by rw [hsp]; simp
  constructor
  · intro p' k s' Sk hsp' hk hSk d hkd
    by_cases e : k = i
    · subst e
      obtain ⟨o', f'⟩ := C.facts p' k s' hsp'
      have := f'.op
      rw [f.op] at this; cases this
      obtain ⟨rfl, rfl⟩ := split_uniq (hsp ▸ hsp') f.new f'.new
      rw [drun_append, hS] at hSk
      have hSk' : drun P gl O call ops.toList befs nt lim [k] Sa = some Sk := hSk
      rw [drun_one, h1] at hSk'
      cases hSk'
      obtain ⟨o2, g1, g2⟩ := hkd
      rw [f.op] at g1; cases g1
      have hlt := putA_lt hp g2
      rw [putA_look hp, if_pos g2, g2, put_getD_same (Nat.lt_of_lt_of_le hlt c.size)]
      exact hu
    · have hDk := hk.resolve_left e
      rw [put_getD]
      · exact R.mono hx _ _ (c.wr p' k s' Sk hsp' hDk hSk d hkd)
      · intro hd
        exact C.dst_uniq hmem (by rw [hsp']; simp) (fun x => e x.symm) ⟨o, f.op, hd⟩ hkd
  · intro d hd
    rw [put_getD]
    · exact R.mono hx _ _ (c.un d (fun k hk hkd hDk => hd k hk hkd (.inr hDk)))
    · intro he
      exact hd i hmem ⟨o, f.op, he⟩ (.inl rfl)

theorem Core.hext (C : Ctx P gl O wB M call ops befs nt lim ord S0 Sn ρ0 H0 w0) (c : Core P gl O call ops befs nt lim ord S0 ρ0 H0 w0 ds D a w q r Sq ρ) {Sa : DS} (hr : HRel ρ Sa.H w) (hnx : Sa.H.next = Sq.H.next)
    (hk : ∀ b, b < Sq.nid → Sa.H.blks.get b = Sq.H.blks.get b) : Step ρ0 H0 w0 ρ Sa.H w := by
  have hnid : H0.next ≤ Sq.nid := Nat.le_trans C.nid0 (drun_nid c.runq)
  refine ⟨hr, c.st.ext, c.st.new, c.st.own, ⟨by rw [hnx]; exact c.st.hx.next, ?_, ?_⟩, c.st.fr⟩
  · intro b hb hg
    rw [hk b (by omega)]
    exact c.st.hx.gone b hb hg
  · intro b o ho
    have hb : b < H0.next := by
      apply Classical.byContradiction
      intro hge
      rw [C.hr0.top b (by omega)] at ho; cases ho
    rw [hk b (by omega)]
    exact c.st.hx.kept b o ho
end

end Go.Ev

/- Regions whose operations come in any order: one operation, and the whole region. -/
namespace Go.Ev
variable {P : Program} {ρ : Rho} {H : AHeap} {w : World}

theorem tmps_reads {l : List Oper} {o : Oper} {d : Nat} (h : d ∈ tmpsOf o.op.operands.toList) : d ∈ readsOf l o := by
  unfold readsOf
  split
  · exact List.mem_cons_of_mem _ h
  · exact h
theorem guard_reads {l : List Oper} {o : Oper} {d : Nat} (h : guardD l o.guard = some d) : d ∈ readsOf l o := by
  unfold readsOf
  rw [h]; simp

section
variable {gl : Nat → Nat} {O : Orc} {call : CallF} {wB : World} {M : Nat → Prop} {ops : Array Oper} {befs : T Nat} {nt lim : Nat} {ord : List Nat} {S0 Sn : DS} {ρ0 : Rho} {H0 : AHeap} {w0 : World} {ds : List Deferred}
  {D : Nat → Prop} {a : Act} {q r : List Nat} {Sq : DS}

/-- An operation that leaves memory as it is. -/
theorem Core.stay (C : Ctx P gl O wB M call ops befs nt lim ord S0 Sn ρ0 H0 w0) (c : Core P gl O call ops befs nt lim ord S0 ρ0 H0 w0 ds D a w q r Sq ρ) {p s : List Nat} {i : Nat} {o : Oper} {Sa S1 : DS} {v : AV} {u : Value}
    (hrs : r = p ++ i :: s) (hsp : ord = (q ++ p) ++ i :: s) (f : SFacts ops.toList (q ++ p) i o) (hi : ¬ D i) (hSa : drun P gl O call ops.toList befs nt lim (q ++ p) S0 = some Sa)
    (hSp : drun P gl O call ops.toList befs nt lim p Sq = some Sa) (h1 : dstep P gl O call ops.toList befs nt lim i Sa = some S1) (hp : putA nt Sa.t o.dst v = some S1.t) (hu : R ρ v u)
    (hne : isEf o = false) (hnm : ∀ m, ¬ MadeAt P gl O ops.toList i Sa m) :
    Core P gl O call ops befs nt lim ord S0 ρ0 H0 w0 ds (fun k => k = i ∨ D k) (a.put o.dst u) w q r Sq ρ := by
  obtain ⟨w1, w2⟩ := c.wrote C hsp f hi hSa h1 hp (Ext.refl ρ) hu
  refine ⟨c.split, c.runq, c.base, fun k hk => .inr (c.qD k hk), ?_, c.st, c.hg, c.fresh, ?_, w1, w2, by rw [put_size.1]; exact c.size, by rw [put_size.2]; exact c.dfs⟩
  · intro k hk hDk o' ho'
    rcases hDk with rfl | hDk
    · rw [f.op] at ho'; cases ho'; exact hne
    · exact c.rD k hk hDk o' ho'
  · intro p' k s' Sb m hr hd hm
    by_cases e : k = i
    · subst e
      exfalso
      have hnp : k ∉ p := fun hc => f.new (by simp [hc])
      have hnp' : k ∉ p' := by
        obtain ⟨o', f'⟩ := C.facts (q ++ p') k s' (by rw [c.split, hr]; simp)
        exact fun hc => f'.new (by simp [hc])
      obtain ⟨rfl, rfl⟩ := split_uniq (hrs ▸ hr) hnp hnp'
      rw [hSp] at hd; cases hd
      exact hnm m hm
    · obtain ⟨g1, g2⟩ := c.al p' k s' Sb m hr hd hm
      exact ⟨fun h => g1 (h.resolve_left e), fun h => g2 (fun hD => h (.inr hD))⟩

/-- An operation that makes a block. -/
theorem Core.make (C : Ctx P gl O wB M call ops befs nt lim ord S0 Sn ρ0 H0 w0) (c : Core P gl O call ops befs nt lim ord S0 ρ0 H0 w0 ds D a w q r Sq ρ) {p s : List Nat} {i : Nat} {o : Oper} {Sa S1 : DS} {m : Made} {u : Value} {o' : Obj}
    (hrs : r = p ++ i :: s) (hsp : ord = (q ++ p) ++ i :: s) (f : SFacts ops.toList (q ++ p) i o) (hi : ¬ D i) (hSa : drun P gl O call ops.toList befs nt lim (q ++ p) S0 = some Sa)
    (hSp : drun P gl O call ops.toList befs nt lim p Sq = some Sa) (h1 : dstep P gl O call ops.toList befs nt lim i Sa = some S1) (hp : putA nt Sa.t o.dst (m.val Sa.nid) = some S1.t)
    (hne : isEf o = false) (hm : MadeAt P gl O ops.toList i Sa m) (hnew : NewOk P ρ w m.obj m.val m.n u o') :
    ∃ ρ', Core P gl O call ops befs nt lim ord S0 ρ0 H0 w0 ds (fun k => k = i ∨ D k) (a.put o.dst u) (w.alloc o') q r Sq ρ' := by
  have hlim := (made_nid h1 hm).2
  have hfr := (c.al p i s Sa m hrs hSp hm).2 hi
  have hext : Ext ρ (rhoWith ρ Sa.nid ⟨w.heap.size, 0, m.n, m.n, 0⟩) := rhoWith_ext hfr
  obtain ⟨hv, hb⟩ := hnew _ Sa.nid hext rhoWith_same
  obtain ⟨w1, w2⟩ := c.wrote C hsp f hi hSa h1 hp hext hv
  have hr := c.st.rel
  have hqa : Sq.nid ≤ Sa.nid := drun_nid hSp
  have h0q : H0.next ≤ Sq.nid := Nat.le_trans C.nid0 (drun_nid c.runq)
  have hnone : Sq.H.blks.get Sa.nid = none := c.fresh.2 _ hqa hlim
  refine ⟨rhoWith ρ Sa.nid ⟨w.heap.size, 0, m.n, m.n, 0⟩, c.split, c.runq, c.base, fun k hk => .inr (c.qD k hk), ?_, ?_, c.hg.mono hext, c.fresh, ?_, w1, w2, by rw [put_size.1]; exact c.size, by rw [put_size.2]; exact c.dfs⟩
  · intro k hk hDk o2 ho2
    rcases hDk with rfl | hDk
    · rw [f.op] at ho2; cases ho2; exact hne
    · exact c.rD k hk hDk o2 ho2
  · refine ⟨⟨?_, ?_, ?_, hr.top⟩, c.st.ext.trans hext, ?_, ?_, c.st.hx, ⟨c.st.fr.os, c.st.fr.tape, c.st.fr.output, ?_, ?_⟩⟩
    · intro b x I b' x' I' hb hb' hB
      rcases rhoWith_cases hb with ⟨rfl, rfl, rfl⟩ | g <;> rcases rhoWith_cases hb' with ⟨rfl, rfl, rfl⟩ | g'
      · exact ⟨rfl, rfl, rfl, rfl⟩
      · have := (hr.lt _ _ _ g').2.1; simp at hB; omega
      · have := (hr.lt _ _ _ g).2.1; simp at hB; omega
      · exact hr.inj _ _ _ _ _ _ g g' hB
    · intro b x I hb
      rcases rhoWith_cases hb with ⟨rfl, rfl, rfl⟩ | g
      · refine ⟨Nat.lt_of_lt_of_le hlim c.fresh.1, ?_, by simp⟩
        simp
      · have := hr.lt _ _ _ g
        refine ⟨this.1, ?_, this.2.2⟩
        rw [World.size_alloc]; omega
    · intro b x I p' hb hg
      rcases rhoWith_cases hb with ⟨rfl, rfl, rfl⟩ | g
      · rw [hnone] at hg; cases hg
      · have hlt := hr.lt _ _ _ g
        exact ((hr.blk _ _ _ _ g hg).mono hext).same (heap_alloc_lt hlt.2.1)
    · intro b x I hb
      rcases rhoWith_cases hb with ⟨rfl, rfl, rfl⟩ | g
      · exact .inr (.inl ⟨c.st.fr.size, .inr (by omega)⟩)
      · exact c.st.new b x I g
    · intro b hb hg x I hI
      rcases rhoWith_cases hI with ⟨rfl, rfl, rfl⟩ | g
      · omega
      · exact c.st.own b hb hg x I g
    · rw [World.size_alloc]; have := c.st.fr.size; omega
    · intro B hB ho
      rw [heap_alloc_lt (Nat.lt_of_lt_of_le hB c.st.fr.size)]
      exact c.st.fr.old B hB ho
  · intro p' k s' Sb m' hr' hd hm'
    by_cases e : k = i
    · subst e
      have hnp : k ∉ p := fun hc => f.new (by simp [hc])
      have hnp' : k ∉ p' := by
        obtain ⟨o2, f'⟩ := C.facts (q ++ p') k s' (by rw [c.split, hr']; simp)
        exact fun hc => f'.new (by simp [hc])
      obtain ⟨rfl, rfl⟩ := split_uniq (hrs ▸ hr') hnp hnp'
      rw [hSp] at hd; cases hd
      obtain ⟨oa, a1, a2, a3, a4⟩ := hm
      obtain ⟨ob, b1, b2, b3, b4⟩ := hm'
      rw [a1] at b1; cases b1
      rw [a4] at b4; cases b4
      refine ⟨fun _ => ⟨_, rhoWith_same, ?_, hb⟩, fun h => absurd (.inl rfl) h⟩
      intro x hx
      unfold rhoWith
      rw [if_neg (by simp [hx])]
      exact hfr x
    · obtain ⟨g1, g2⟩ := c.al p' k s' Sb m' hr' hd hm'
      refine ⟨fun h => ?_, fun h => ?_⟩
      · obtain ⟨I, h1, h2, h3⟩ := g1 (h.resolve_left e)
        refine ⟨I, hext _ _ _ h1, ?_, (h3.mono hext).same (heap_alloc_lt (hr.lt _ _ _ h1).2.1)⟩
        intro x hx
        unfold rhoWith
        rw [if_neg (by simp [hx])]
        exact h2 x hx
      · have hid : Sb.nid ≠ Sa.nid := by
          -- two blocks of two operations
          rcases split_two (hrs ▸ hr') (fun x => e x.symm) with ⟨z, hz⟩ | ⟨z, hz⟩
          · rw [hz, drun_append, hSp] at hd
            have hd' : drun P gl O call ops.toList befs nt lim (i :: z) Sa = some Sb := hd
            rw [drun_cons, h1] at hd'
            have := drun_nid hd'
            have := (made_nid h1 hm).1
            omega
          · have hSp' := hSp
            rw [hz, drun_append, hd] at hSp'
            have hd' : drun P gl O call ops.toList befs nt lim (k :: z) Sb = some Sa := hSp'
            rw [drun_cons] at hd'
            obtain ⟨S2, k1, k2⟩ := Option.bind_eq_some_iff.1 hd'
            have := drun_nid k2
            have := (made_nid k1 hm').1
            omega
        intro x
        unfold rhoWith
        rw [if_neg (by simp [hid])]
        exact g2 (fun hD => h (.inr hD)) x

/-- An operation that acts. -/
theorem Core.acts (C : Ctx P gl O wB M call ops befs nt lim ord S0 Sn ρ0 H0 w0) (c : Core P gl O call ops befs nt lim ord S0 ρ0 H0 w0 ds D a w q r Sq ρ) {p s : List Nat} {i : Nat} {o : Oper} {Sa S1 : DS} {v : AV} {u : Value} {ρ' : Rho} {w' : World}
    (hrs : r = p ++ i :: s) (hsp : ord = (q ++ p) ++ i :: s) (f : SFacts ops.toList (q ++ p) i o) (hi : ¬ D i) (hSa : drun P gl O call ops.toList befs nt lim (q ++ p) S0 = some Sa)
    (hSp : drun P gl O call ops.toList befs nt lim p Sq = some Sa) (h1 : dstep P gl O call ops.toList befs nt lim i Sa = some S1) (hp : putA nt Sa.t o.dst v = some S1.t)
    (hpD : ∀ j ∈ p, D j) (hfa : Fresh lim Sa) (hb : S1.base = S1.H) (hn : S1.nid = Sa.nid) (hst : Step ρ0 H0 w0 ρ Sa.H w) (hstep : Step ρ Sa.H w ρ' S1.H w') (hu : R ρ' v u) :
    Core P gl O call ops befs nt lim ord S0 ρ0 H0 w0 ds (fun k => k = i ∨ D k) (a.put o.dst u) w' (q ++ p ++ [i]) s S1 ρ' := by
  obtain ⟨w1, w2⟩ := c.wrote C hsp f hi hSa h1 hp hstep.ext hu
  have hq1 : drun P gl O call ops.toList befs nt lim (q ++ p ++ [i]) S0 = some S1 := by rw [drun_append, hSa]; show drun P gl O call ops.toList befs nt lim [i] Sa = _; rw [drun_one, h1]
  have his : i ∉ s := by
    intro hc
    obtain ⟨x, y, hxy⟩ := List.append_of_mem hc
    obtain ⟨o2, f2⟩ := C.facts (q ++ p ++ i :: x) i y (by rw [hsp, hxy]; simp)
    exact f2.new (by simp)
  refine ⟨by rw [hsp]; simp, hq1, hb, ?_, ?_, Step.trans C.hr0 hst hstep, c.hg.mono hstep.ext, ⟨Nat.le_trans hfa.1 hstep.hx.next, ?_⟩, ?_, w1, w2, by rw [put_size.1]; exact c.size, by rw [put_size.2]; exact c.dfs⟩
  · intro k hk
    rcases List.mem_append.1 hk with hk | hk
    · rcases List.mem_append.1 hk with hk | hk
      · exact .inr (c.qD k hk)
      · exact .inr (hpD k hk)
    · exact .inl (List.mem_singleton.1 hk)
  · intro k hk hDk o2 ho2
    rcases hDk with rfl | hDk
    · exact absurd hk his
    · exact c.rD k (by rw [hrs]; simp [hk]) hDk o2 ho2
  · intro b hb1 hb2
    exact hstep.hx.gone b (Nat.lt_of_lt_of_le hb2 hfa.1) (hfa.2 b (by omega) hb2)
  · intro p' k s' Sb m' hr' hd hm'
    have hki : k ≠ i := by
      intro e; subst e
      exact his (by rw [hr']; simp)
    have hd2 : drun P gl O call ops.toList befs nt lim (p ++ i :: p') Sq = some Sb := by
      rw [drun_append, hSp]
      show drun P gl O call ops.toList befs nt lim (i :: p') Sa = some Sb
      rw [drun_cons, h1]; exact hd
    obtain ⟨g1, g2⟩ := c.al (p ++ i :: p') k s' Sb m' (by rw [hrs, hr']; simp) hd2 hm'
    have hnb : Sa.nid ≤ Sb.nid := by have := drun_nid hd; omega
    have hlimb : Sb.nid < lim := by
      obtain ⟨S2, k1, k2⟩ := C.front (p := q ++ p ++ [i] ++ p') (s := k :: s') (by rw [hsp, hr']; simp)
      rw [drun_append, hq1] at k1
      have k1' : drun P gl O call ops.toList befs nt lim p' S1 = some S2 := k1
      rw [hd] at k1'; cases k1'
      rw [drun_cons] at k2
      obtain ⟨S3, k3, _⟩ := Option.bind_eq_some_iff.1 k2
      exact (made_nid k3 hm').2
    have hnone := hfa.2 Sb.nid hnb hlimb
    have hltn : Sb.nid < Sa.H.next := Nat.lt_of_lt_of_le hlimb hfa.1
    have hown := hstep.own Sb.nid hltn hnone
    refine ⟨fun h => ?_, fun h => ?_⟩
    · obtain ⟨I, e1, e2, e3⟩ := g1 (h.resolve_left hki)
      refine ⟨I, hstep.ext _ _ _ e1, ?_, (e3.mono hstep.ext).same ?_⟩
      · intro x hx
        cases hq : ρ' Sb.nid x with
        | none => rfl
        | some J => have := hown x J hq; rw [e2 x hx] at this; cases this
      · refine hstep.fr.old I.B (hst.rel.lt _ _ _ e1).2.1 ?_
        intro b x J o2 hbJ hB hg
        obtain ⟨rfl, _⟩ := hst.rel.inj _ _ _ _ _ _ hbJ e1 hB
        rw [hnone] at hg; cases hg
    · intro x
      cases hq : ρ' Sb.nid x with
      | none => rfl
      | some J => have := hown x J hq; rw [g2 (fun hD => h (.inr hD)) x] at this; cases this

theorem DInv.exec (C : Ctx P gl O wB M call ops befs nt lim ord S0 Sn ρ0 H0 w0) {i : Nat} {o : Oper} {K : Act → World → Prop} {Q : Exit → Act → World → Prop}
    (h : DInv P gl O call ops befs nt lim ord S0 ρ0 H0 w0 ds D a w) (hi : ¬ D i) (ho : ops[i]? = some o) (he : ∀ j ∈ edgesOf o, D j)
    {ro : Option Nat} {n : Nat} (hK : ∀ a' w', DInv P gl O call ops befs nt lim ord S0 ρ0 H0 w0 ds (fun k => k = i ∨ D k) a' w' → K a' w') : wpOpIn (W ro) n P ops Q i K a w := by
  obtain ⟨hD, q, r, Sq, ρ, c⟩ := h
  have hilt : i < ops.size := (Array.getElem?_eq_some_iff.1 ho).1
  have hol : ops.toList[i]? = some o := by simpa using ho
  have hmem := C.full i hilt
  have hmr : i ∈ r := by
    rw [c.split] at hmem
    rcases List.mem_append.1 hmem with hq | hr
    · exact absurd (c.qD i hq) hi
    · exact hr
  obtain ⟨p, s, hrs⟩ := List.append_of_mem hmr
  have hsp : ord = (q ++ p) ++ i :: s := by rw [c.split, hrs]; simp
  obtain ⟨o', f⟩ := C.facts _ _ _ hsp
  have := f.op
  rw [hol] at this; cases this
  obtain ⟨Sa, hSa, hrest⟩ := C.front hsp
  have hSp : drun P gl O call ops.toList befs nt lim p Sq = some Sa := by
    have := hSa
    rw [drun_append, c.runq] at this
    exact this
  rw [drun_cons] at hrest
  obtain ⟨S1, h1, _⟩ := Option.bind_eq_some_iff.1 hrest
  have hD' : Down ops.toList (fun k => k = i ∨ D k) := by
    intro k ok hok hk j hj
    rcases hk with rfl | hk
    · rw [hol] at hok; cases hok; exact .inr (he j hj)
    · exact .inr (hD k ok hok hk j hj)
  have hpr : ∀ j, j ≠ i → Pr ops.toList i j → D j := fun j hne hp => (hp _ hD' (.inl rfl)).resolve_left hne
  have hread := c.read C hD hsp f hi hpr hSa
  have hlen : ∀ j, j < ops.size → ∀ d, ((ops[j]?).bind (·.dst)) = some d → d < a.tmps.size := fun j hj d h => Nat.lt_of_lt_of_le (C.hd j hj d h) c.size
  have hx : ∀ x, R ρ (opnds gl Sa.t o x) (a.eval x) := opdM_ok c.hg (fun d hd => hread d (tmps_reads hd))
  have hwant : ∀ {b : Bool}, wantedA ops.toList Sa.t o.guard = some b → Region.wanted o (yielded ops a.tmps) = b := fun hb => wantedA_ok' (fun d hd => hread d (guard_reads hd)) hlen hb
  obtain ⟨o2, v, ho2, hput, hs⟩ := dstep_ok h1
  rw [hol] at ho2; cases ho2
  have hins : isEf o = true → (∀ j ∈ p, D j) ∧ Fresh lim Sa ∧ Step ρ0 H0 w0 ρ Sa.H w := by
    intro hef
    have hpD : ∀ j ∈ p, D j := fun j hj => hpr j (fun e => f.new (by rw [← e]; simp [hj])) (f.ef hef j (by simp [hj]))
    obtain ⟨g1, g2, g3, g4⟩ := insert_run hSp (fun j hj oj hoj => c.rD j (by rw [hrs]; simp [hj]) (hpD j hj) oj hoj) c.st.rel c.fresh (by
      intro p' k s' Sb m hpk hd hm
      exact (c.al p' k (s' ++ i :: s) Sb m (by rw [hrs, hpk]; simp) hd hm).1 (hpD k (by rw [hpk]; simp)))
    exact ⟨hpD, g2, c.hext C g1 g3 g4⟩
  unfold wpOpIn
  rw [ho]
  simp only
  have hMade : ∀ {m}, MadeAt P gl O ops.toList i Sa m → wantedA ops.toList Sa.t o.guard = some true ∧ kindOf o.op = .al := by
    rintro m ⟨o3, h3, h4, h5, _⟩
    rw [hol] at h3; cases h3
    exact ⟨h4, h5⟩
  generalize hb1 : S1.H = b1, hb2 : S1.base = b2, hb3 : S1.hist = b3, hb4 : S1.nid = b4 at hs
  cases hs with
  | off hw hne =>
    rw [hwant hw, if_neg (by simp)]
    refine ⟨fun _ _ => trivial, ?_⟩
    refine hK _ _ ⟨hD', q, r, Sq, ρ, c.stay C hrs hsp f hi hSa hSp h1 hput R_undef hne ?_⟩
    intro m hm
    rw [hw] at hMade
    cases (hMade hm).1
  | offEf hw hef =>
    rw [hwant hw, if_neg (by simp)]
    refine ⟨fun _ _ => trivial, ?_⟩
    obtain ⟨g1, g2, g3⟩ := hins hef
    refine hK _ _ ⟨hD', q ++ p ++ [i], s, S1, ρ, c.acts C hrs hsp f hi hSa hSp h1 hput g1 g2 (by rw [hb1, hb2]) hb4 g3 (by rw [hb1]; exact Step.refl g3.rel) R_undef⟩
  | rd hw hk hv hwin =>
    rw [hwant hw, if_pos rfl]
    obtain ⟨e1, _⟩ := win_run hSp (by
      intro k hk' ok hok hef
      cases hbit : bitOf (numAt befs i) k with
      | false => rfl
      | true =>
        have hDk := hpr k (fun e => f.new (by rw [← e]; simp [hk'])) (C.bef i (C.full i hilt) k hbit)
        rw [c.rD k (by rw [hrs]; simp [hk']) hDk ok hok] at hef
        cases hef) hv hwin
    rw [c.base] at e1
    obtain ⟨u, e2, e3⟩ := rdO_ok C.hO (C.hG.step c.st) hx e1
    refine wpIn_value (nd_rd hk) e2 ?_
    refine hK _ _ ⟨hD', q, r, Sq, ρ, c.stay C hrs hsp f hi hSa hSp h1 hput e3 (isEf_rd hk) ?_⟩
    intro m hm
    have := (hMade hm).2
    rw [hk] at this; cases this
  | al hw hk hm hl =>
    rename_i m
    rw [hwant hw, if_pos rfl]
    obtain ⟨u, o', e1, e2⟩ := alO_ok (P := P) (w := w) C.hO hx hm
    refine wpIn_value (nd_al hk) e1 ?_
    obtain ⟨ρ', c'⟩ := c.make C hrs hsp f hi hSa hSp h1 hput (isEf_al hk) ⟨o, hol, hw, hk, hm⟩ e2
    exact hK _ _ ⟨hD', q, r, Sq, ρ', c'⟩
  | ef hw hk hv =>
    rw [hwant hw, if_pos rfl]
    obtain ⟨g1, g2, g3⟩ := hins (isEf_ef hk)
    refine efO_ok C.hO C.hn C.hcall (C.hG.step g3) hx hv ?_
    intro u w' ρ' hu hstep
    exact hK _ _ ⟨hD', q ++ p ++ [i], s, S1, ρ', c.acts C hrs hsp f hi hSa hSp h1 hput g1 g2 (by rw [hb1, hb2]) hb4 g3 (by rw [hb1]; exact hstep) hu⟩

/-- All has run. -/
theorem DInv.done (C : Ctx P gl O wB M call ops befs nt lim ord S0 Sn ρ0 H0 w0) (h : DInv P gl O call ops befs nt lim ord S0 ρ0 H0 w0 ds D a w) (hall : ∀ i ∈ ord, D i) :
    Post gl nt ρ0 H0 w0 ds ⟨Sn.t, Sn.H⟩ a w := by
  obtain ⟨hD, q, r, Sq, ρ, c⟩ := h
  obtain ⟨S, h1, h2⟩ := C.front c.split
  rw [c.runq] at h1; cases h1
  have hrD : ∀ i ∈ r, D i := fun i hi => hall i (by rw [c.split]; simp [hi])
  obtain ⟨g1, g2, g3, g4⟩ := insert_run h2 (fun j hj oj hoj => c.rD j hj (hrD j hj) oj hoj) c.st.rel c.fresh (by
    intro p' k s' Sb m hpk hd hm
    exact (c.al p' k s' Sb m hpk hd hm).1 (hrD k (by rw [hpk]; simp)))
  refine ⟨ρ, c.hext C g1 g3 g4, ?_, c.size, c.dfs⟩
  intro d
  show R ρ (look Sn.t d) _
  by_cases hw : ∃ j ∈ ord, dstIs ops.toList j d
  · obtain ⟨j, hj, hjd⟩ := hw
    obtain ⟨p1, p2, hp⟩ := List.append_of_mem hj
    obtain ⟨Sj, k1, k2⟩ := C.front (p := p1 ++ [j]) (s := p2) (by rw [hp]; simp)
    have h3 := c.wr p1 j p2 Sj hp (hall j hj) k1 d hjd
    rw [drun_frame k2]
    · exact h3
    · intro k hk hkd
      refine C.dst_uniq (i := j) (k := k) (d := d) hj (by rw [hp]; simp [hk]) ?_ hjd hkd
      intro e
      subst e
      obtain ⟨x, y, hxy⟩ := List.append_of_mem hk
      obtain ⟨o', f'⟩ := C.facts (p1 ++ j :: x) j y (by rw [hp, hxy]; simp)
      exact f'.new (by simp)
  · rw [drun_frame C.run (fun j hj hjd => hw ⟨j, hj, hjd⟩)]
    exact c.un d (fun k hk hkd => absurd ⟨k, hk, hkd⟩ hw)
end

end Go.Ev

/- A region whose operations come in any order, run in one. -/
namespace Go.Ev
variable {P : Program} {ρ : Rho} {H : AHeap} {w : World}

theorem filter_le {l : List Nat} {f g : Nat → Bool} (h : ∀ x, g x = true → f x = true) : (l.filter g).length ≤ (l.filter f).length := by
  induction l with
  | nil => simp
  | cons x l ih =>
    by_cases hg : g x = true
    · rw [List.filter_cons_of_pos hg, List.filter_cons_of_pos (h x hg)]; simp; exact ih
    · rw [List.filter_cons_of_neg hg]
      by_cases hf : f x = true
      · rw [List.filter_cons_of_pos hf]; simp; omega
      · rw [List.filter_cons_of_neg hf]; exact ih
theorem filter_lt {l : List Nat} {f g : Nat → Bool} (h : ∀ x, g x = true → f x = true) {i : Nat} (hi : i ∈ l) (h1 : f i = true) (h2 : g i = false) : (l.filter g).length < (l.filter f).length := by
  induction l with
  | nil => cases hi
  | cons x l ih =>
    rcases List.mem_cons.1 hi with rfl | hi
    · rw [List.filter_cons_of_pos h1, List.filter_cons_of_neg (by rw [h2]; simp)]
      have := filter_le (l := l) h
      simp; omega
    · have := ih hi
      by_cases hg : g x = true
      · rw [List.filter_cons_of_pos hg, List.filter_cons_of_pos (h x hg)]; simp; exact this
      · rw [List.filter_cons_of_neg hg]
        by_cases hf : f x = true
        · rw [List.filter_cons_of_pos hf]; simp; omega
        · rw [List.filter_cons_of_neg hf]; exact this

theorem first_not {D : Nat → Bool} : ∀ {l : List Nat}, (∃ i ∈ l, D i = false) → ∃ p i s, l = p ++ i :: s ∧ (∀ j ∈ p, D j = true) ∧ D i = false
  | [], ⟨i, h, _⟩ => by cases h
  | x :: l, ⟨i, h, hi⟩ => by
    cases hx : D x with
    | false => exact ⟨[], x, l, rfl, by simp, hx⟩
    | true =>
      have : ∃ i ∈ l, D i = false := by
        rcases List.mem_cons.1 h with rfl | h
        · rw [hx] at hi; cases hi
        · exact ⟨i, h, hi⟩
      obtain ⟨p, j, s, h1, h2, h3⟩ := first_not this
      refine ⟨x :: p, j, s, by rw [h1]; rfl, ?_, h3⟩
      intro k hk
      rcases List.mem_cons.1 hk with rfl | hk
      · exact hx
      · exact h2 k hk

section
variable {gl : Nat → Nat} {O : Orc} {wB : World} {M : Nat → Prop} {call : CallF} {ops : Array Oper} {befs : T Nat} {nt lim : Nat} {ord : List Nat} {S0 Sn : DS} {ρ0 : Rho} {H0 : AHeap} {w0 : World} {ds : List Deferred}

theorem drn_any (C : Ctx P gl O wB M call ops befs nt lim ord S0 Sn ρ0 H0 w0) {Q : Exit → Act → World → Prop} {ro : Option Nat} {n : Nat} (hQ : ∀ a w, Post gl nt ρ0 H0 w0 ds ⟨Sn.t, Sn.H⟩ a w → Q .normal a w) :
    ∀ (fuel : Nat) (listed : Array Bool) (a : Act) (w : World), listed.size = ops.size → (ord.filter (fun i => !listed.getD i false)).length ≤ fuel →
      DInv P gl O call ops befs nt lim ord S0 ρ0 H0 w0 ds (fun i => listed.getD i false = true) a w → wpAnyIn (W ro) n P .any ops Q fuel listed a w := by
  have empty : ∀ (listed : Array Bool), listed.size = ops.size → Region.ready .any ops listed = [] → ∀ i ∈ ord, listed.getD i false = true := by
    intro listed hsz hr
    apply Classical.byContradiction
    intro hc
    have : ∃ i ∈ ord, listed.getD i false = false := by
      apply Classical.byContradiction
      intro h2
      apply hc
      intro i hi
      cases h : listed.getD i false with
      | true => rfl
      | false => exact absurd ⟨i, hi, h⟩ h2
    obtain ⟨p, i, s, h1, h2, h3⟩ := first_not this
    obtain ⟨o, f⟩ := C.facts p i s h1
    have hop : ops[i]? = some o := by simpa using f.op
    have hlt : i < ops.size := (Array.getElem?_eq_some_iff.1 hop).1
    have hmem : i ∈ Region.ready .any ops listed := by
      refine mem_ready.2 ⟨?_, o, hop, ?_⟩
      · have hl : i < listed.size := by omega
        simpa [Array.getD_eq_getD_getElem?, hl] using h3
      · intro e he hb
        exact h2 _ (f.edges _ (mem_edgesOf.2 ⟨e, by simpa using he, hb, rfl⟩))
    rw [hr] at hmem
    cases hmem
  intro fuel
  induction fuel with
  | zero =>
    intro listed a w hsz hf hI
    have hall : ∀ i ∈ ord, listed.getD i false = true := by
      intro i hi
      cases h : listed.getD i false with
      | true => rfl
      | false =>
        have hm : i ∈ ord.filter (fun i => !listed.getD i false) := List.mem_filter.2 ⟨hi, by simp only [h]; rfl⟩
        have := List.length_pos_of_mem hm
        omega
    refine ⟨?_, hQ a w (hI.done C hall)⟩
    apply List.eq_nil_iff_forall_not_mem.2
    intro i hi
    obtain ⟨h1, o, h2, _⟩ := mem_ready.1 hi
    have hlt : i < ops.size := (Array.getElem?_eq_some_iff.1 h2).1
    have := hall i (C.full i hlt)
    have hl : i < listed.size := by omega
    simp [Array.getD_eq_getD_getElem?, hl] at h1 this
    rw [h1] at this; cases this
  | succ fuel ih =>
    intro listed a w hsz hf hI
    refine ⟨fun hr => hQ a w (hI.done C (empty listed hsz hr)), ?_⟩
    intro i hi
    obtain ⟨h1, o, h2, h3⟩ := mem_ready.1 hi
    have hlt : i < ops.size := (Array.getElem?_eq_some_iff.1 h2).1
    have hl : i < listed.size := by omega
    have hnot : listed.getD i false = false := by simpa [Array.getD_eq_getD_getElem?, hl] using h1
    refine hI.exec C (by rw [hnot]; simp) h2 ?_ ?_
    · intro j hj
      obtain ⟨e, he, hb, rfl⟩ := mem_edgesOf.1 hj
      exact h3 e (by simpa using he) hb
    · intro a' w' hI'
      have hset : ∀ k, (listed.setIfInBounds i true).getD k false = true ↔ k = i ∨ listed.getD k false = true := by
        intro k
        by_cases e : k = i
        · subst e; simp [Array.getD_eq_getD_getElem?, hl]
        · have e' : i ≠ k := fun x => e x.symm
          simp [Array.getD_eq_getD_getElem?, Array.getElem?_setIfInBounds_ne e', e]
      refine ih _ a' w' (by simpa using hsz) ?_ ?_
      · have := filter_lt (l := ord) (f := fun k => !listed.getD k false) (g := fun k => !(listed.setIfInBounds i true).getD k false) (by
          intro x hx
          cases h : listed.getD x false with
          | false => rfl
          | true =>
            have := (hset x).2 (.inr h)
            simp only [this] at hx
            cases hx) (C.full i hlt) (by simp only [hnot]; rfl) (by simp only [(hset i).2 (.inl rfl)]; rfl)
        omega
      · have : (fun k => (listed.setIfInBounds i true).getD k false = true) = fun k => k = i ∨ listed.getD k false = true := funext fun k => propext (hset k)
        rw [this]
        exact hI'
end

/-! An order. No more is asked of it than what the run over it checks. -/
noncomputable def foldA {α β : Type} (f : β → α → β) (l : List α) : β → β := List.rec (motive := fun _ => β → β) (fun b => b) (fun a _ ih b => ih (f b a)) l
noncomputable def edgesAt (l : List Oper) (i : Nat) : List Nat := match nth l i with | some o => edgesOf o | none => []
noncomputable def efAt (l : List Oper) (i : Nat) : Bool := match nth l i with | some o => isEf o | none => false
noncomputable def upTo (n : Nat) : List Nat := Nat.rec (motive := fun _ => Nat → List Nat) (fun _ => []) (fun _ ih i => i :: ih (Nat.succ i)) n 0
noncomputable def visit (l : List Oper) (fuel : Nat) : (Nat × List Nat) → Nat → (Nat × List Nat) :=
  Nat.rec (motive := fun _ => (Nat × List Nat) → Nat → (Nat × List Nat)) (fun s _ => s)
    (fun _ ih s i => bif bitOf s.1 i then s else (match foldA ih (edgesAt l i) s with | (m, acc) => (addBit m i, i :: acc))) fuel
noncomputable def revA (l : List Nat) : List Nat := foldA (fun b a => a :: b) l []
noncomputable def topo (l : List Oper) : List Nat := revA (foldA (visit l (len l)) (upTo (len l)) (0, [])).2
noncomputable def ancs (l : List Oper) : T Nat :=
  foldA (fun t i => t.set i (foldA (fun b j => Nat.lor (addBit b j) (numAt t j)) (edgesAt l i) 0)) (topo l) .leaf
noncomputable def insertEf (t : T Nat) (e : Nat) (l : List Nat) : List Nat :=
  List.rec (motive := fun _ => List Nat) [e] (fun x xs ih => bif bitOf (numAt t x) e then e :: x :: xs else x :: ih) l
noncomputable def filterA (f : Nat → Bool) (l : List Nat) : List Nat := List.rec (motive := fun _ => List Nat) [] (fun x _ ih => bif f x then x :: ih else ih) l
noncomputable def catA (a b : List Nat) : List Nat := List.rec (motive := fun _ => List Nat) b (fun x _ ih => x :: ih) a
noncomputable def efsOf (l : List Oper) : List Nat := foldA (fun b i => bif efAt l i then insertEf (ancs l) i b else b) (topo l) []
noncomputable def ordGo (l : List Oper) (es : List Nat) : Nat → List Nat :=
  List.rec (motive := fun _ => Nat → List Nat) (fun m => filterA (fun i => !bitOf m i) (topo l))
    (fun e _ ih m => bif bitOf m e then ih m else catA (filterA (fun i => bitOf (numAt (ancs l) e) i && !bitOf m i) (topo l)) (e :: ih (addBit (Nat.lor m (numAt (ancs l) e)) e))) es
noncomputable def ordOf (l : List Oper) : List Nat := ordGo l (efsOf l) 0

noncomputable def cntAl (l : List Oper) : Nat := List.rec (motive := fun _ => Nat) 0 (fun o _ ih => match kindOf o.op with | .al => Nat.succ ih | _ => ih) l

noncomputable def evDrn (P : Program) (gl : Nat → Nat) (O : Orc) (call : CallF) (ops : Array Oper) (nt : Nat) (st : St) : Option St :=
  match srun ops.toList (ordOf ops.toList) ⟨0, .leaf, .leaf, .leaf⟩ with
  | some ss =>
    bif Nat.beq ss.M (Nat.sub (Nat.pow 2 (len ops.toList)) 1) && Nat.ble (len (ordOf ops.toList)) (len ops.toList) then
      match drun P gl O call ops.toList ss.bef nt (Nat.add st.H.next (cntAl ops.toList)) (ordOf ops.toList)
        ⟨st.t, ⟨Nat.add st.H.next (cntAl ops.toList), st.H.blks⟩, ⟨Nat.add st.H.next (cntAl ops.toList), st.H.blks⟩, [], st.H.next⟩ with
      | some s => some ⟨s.t, s.H⟩
      | none => none
    else none
  | none => none

theorem bitOf_full {n i : Nat} (h : i < n) : bitOf (Nat.sub (Nat.pow 2 n) 1) i = true := by
  rw [bitOf_eq]
  show (2 ^ n - 1).testBit i = true
  rw [Nat.testBit_two_pow_sub_one]
  simpa using h

theorem HRel.raise (hr : HRel ρ H w) (n : Nat) : HRel ρ ⟨H.next + n, H.blks⟩ w :=
  ⟨hr.inj, fun b x I h => ⟨Nat.lt_of_lt_of_le (hr.lt b x I h).1 (Nat.le_add_right _ _), (hr.lt b x I h).2⟩, hr.blk, fun b hb => hr.top b (Nat.le_trans (Nat.le_add_right _ _) hb)⟩

theorem evDrn_ok {gl : Nat → Nat} {O : Orc} {wB : World} {M : Nat → Prop} (hO : OrcOk P gl wB M O) {call : CallF} {nt : Nat} (hn : NoGo P) (hcall : CallOk P gl call) (hm : P.follows .mixedOrders = true) {ops : Array Oper} (hd : dstsOk ops nt) {st st' : St} {a : Act}
    (hG : Good gl wB M ρ st.H w) (ht : TRel ρ st.t a.tmps) (hs : nt ≤ a.tmps.size) (h : evDrn P gl O call ops nt st = some st') {id : Nat} {Q : Exit → Act → World → Prop} {ro : Option Nat} {n : Nat}
    (hQ : ∀ a' w', Post gl nt ρ st.H w a.defers st' a' w' → Q .normal a' w') : (Code.region id ops true).wpIn (W ro) n P Q a w := by
  have hr := hG.rel
  have hg := hG.glo
  unfold evDrn at h
  split at h
  case h_2 => cases h
  rename_i ss hss
  cases hc : Nat.beq ss.M (Nat.sub (Nat.pow 2 (len ops.toList)) 1) && Nat.ble (len (ordOf ops.toList)) (len ops.toList) with
  | false => rw [hc] at h; cases h
  | true =>
    rw [hc] at h
    simp only [cond_true] at h
    simp only [Bool.and_eq_true] at hc
    obtain ⟨hc1, hc2⟩ := hc
    have hM := Nat.eq_of_beq_eq_true hc1
    have hL := Nat.le_of_ble_eq_true hc2
    rw [len_eq] at hM hL
    rw [len_eq] at hL
    split at h
    case h_2 => cases h
    rename_i Sn hrun
    injection h with h; subst h
    obtain ⟨hinv, hfacts⟩ := srun_ok (SInv.empty _) hss
    have C : Ctx P gl O wB M call ops ss.bef nt (st.H.next + cntAl ops.toList) (ordOf ops.toList)
        ⟨st.t, ⟨st.H.next + cntAl ops.toList, st.H.blks⟩, ⟨st.H.next + cntAl ops.toList, st.H.blks⟩, [], st.H.next⟩ Sn ρ st.H w := by
      refine ⟨hn, hcall, hd, fun p i s hsp => by simpa using hfacts p i s hsp, fun i hi j hj => hinv.bef i (by simpa using hi) j hj, ?_, hrun, hr, hO, hG, Nat.le_refl _⟩
      intro i hi
      have := (hinv.M i).1 (by rw [hM]; exact bitOf_full (by simpa using hi))
      simpa using this
    refine wpIn_region_any hm (drn_any C hQ ops.size _ a _ (by simp) ?_ ?_)
    · refine Nat.le_trans (List.length_filter_le _ _) ?_
      simpa using hL
    · have hno : ∀ i, ¬ ((Array.replicate ops.size false).getD i false = true) := by
        intro i
        simp [Array.getD_eq_getD_getElem?, Array.getElem?_replicate]
        split <;> simp
      refine ⟨?_, [], ordOf ops.toList, _, ρ, ⟨rfl, rfl, rfl, by simp, fun i _ hi => absurd hi (hno i), ?_, hg, ⟨Nat.le_refl _, fun b hb _ => hr.top b hb⟩, ?_, fun _ k _ _ _ hk => absurd hk (hno k), fun d _ => ht d, hs, rfl⟩⟩
      · intro i o _ hi
        exact absurd hi (hno i)
      · have hr2 : HRel ρ st.H { w with drawn := w.drawn + 1 } := ⟨hr.inj, hr.lt, hr.blk, hr.top⟩
        exact ⟨hr2.raise _, Ext.refl _, fun _ _ _ h => .inl h, fun _ _ _ _ _ h => h, ⟨Nat.le_add_right _ _, fun _ _ h => h, fun _ o h => ⟨o, h, rfl⟩⟩, ⟨rfl, rfl, rfl, Nat.le_refl _, fun _ _ _ => rfl⟩⟩
      · intro p i s Sa m hsp hd hma
        refine ⟨fun hi => absurd hi (hno i), fun _ x => ?_⟩
        have hge : st.H.next ≤ Sa.nid := drun_nid hd
        cases hx : ρ Sa.nid x with
        | none => rfl
        | some I => have := (hr.lt _ _ _ hx).1; omega

end Go.Ev

/- Blocks that the machine keeps for loops and deferred calls; regions with a defer statement. -/
namespace Go.Ev
variable {P : Program} {ρ : Rho} {H : AHeap} {w : World}

theorem putObj_size (w : World) (r : Nat) (o : Obj) : (w.putObj r o).heap.size = w.heap.size := by simp [World.putObj]

/-- A block that is known is laid anew, whole. -/
theorem poke_step (hr : HRel ρ H w) {k : Nat} {I : Inc} {o p : AObj} {o' : Obj} (hI : ρ k 0 = some I) (hg : H.blks.get k = some o) (hro : o.ro = false) (hro' : p.ro = false)
    (hp : ∀ x J, ρ k x = some J → J.B = I.B → BRel ρ x J p (w.putObj I.B o').heap) (hall : ∀ x J, ρ k x = some J → J.B = I.B) :
    Step ρ H w ρ ⟨H.next, H.blks.set k p⟩ (w.putObj I.B o') := by
  have hlt := hr.lt _ _ _ hI
  refine ⟨⟨hr.inj, ?_, ?_, ?_⟩, Ext.refl _, fun _ _ _ h => .inl h, fun _ _ _ _ _ h => h, ⟨Nat.le_refl _, ?_, ?_⟩, ⟨rfl, rfl, rfl, by rw [putObj_size]; exact Nat.le_refl _, ?_⟩⟩
  · intro b x J hJ
    have := hr.lt _ _ _ hJ
    exact ⟨this.1, by rw [putObj_size]; exact this.2.1, this.2.2⟩
  · intro b x J q hJ hq
    by_cases e : b = k
    · subst e
      rw [T.get_set_same] at hq; cases hq
      exact hp x J hJ (hall x J hJ)
    · rw [T.get_set_ne _ _ e] at hq
      have hne : J.B ≠ I.B := fun h => e (hr.inj _ _ _ _ _ _ hJ hI h).1
      exact (hr.blk _ _ _ _ hJ hq).same (World.putObj_heap_other hne)
  · intro b hb
    have hb' : H.next ≤ b := hb
    show (H.blks.set k p).get b = none
    rw [T.get_set_ne _ _ (by omega)]
    exact hr.top b hb'
  · intro b hb hn
    by_cases e : b = k
    · subst e; rw [hg] at hn; cases hn
    · rw [T.get_set_ne _ _ e]; exact hn
  · intro b q hq
    by_cases e : b = k
    · subst e
      rw [hg] at hq; cases hq
      exact ⟨p, T.get_set_same _ _ _, by rw [hro, hro']⟩
    · exact ⟨q, by rw [T.get_set_ne _ _ e]; exact hq, rfl⟩
  · intro B hB ho
    have hne : B ≠ I.B := by
      intro e
      have := ho k 0 I o hI e.symm hg
      rw [hro] at this; cases this
    exact World.putObj_heap_other hne

theorem loop_get (hr : HRel ρ H w) {k : Nat} {I : Inc} {busy : Bool} {t : T AV} {nt : Nat} {ps : List Nat} {as bd : Code} (hI : ρ k 0 = some I) (hg : H.blks.get k = some (.loop busy t nt ps as bd)) :
    (∃ r : Loop, w.heap[I.B]? = some (.loop r) ∧ r.state = (if busy then .busy else .ready) ∧ r.pending = none ∧ r.params.toList = ps ∧ r.assign = as ∧ r.body = bd ∧ nt ≤ r.tmps.size ∧ TRel ρ t r.tmps) ∧
      ∀ x J, ρ k x = some J → J.B = I.B := by
  refine ⟨(hr.blk _ _ _ _ hI hg).2, ?_⟩
  intro x J hJ
  obtain ⟨rfl, _⟩ := hr.blk _ _ _ _ hJ hg
  rw [hI] at hJ; cases hJ; rfl

/-- The record of a loop takes another state. -/
theorem loop_step (hr : HRel ρ H w) {k : Nat} {I : Inc} {busy busy' : Bool} {t : T AV} {nt : Nat} {ps : List Nat} {as bd : Code} {r r' : Loop} (hI : ρ k 0 = some I) (hg : H.blks.get k = some (.loop busy t nt ps as bd))
    (h0 : w.heap[I.B]? = some (.loop r)) (h1 : r'.state = (if busy' then .busy else .ready)) (h2 : r'.pending = none) (h3 : r'.params = r.params) (h4 : r'.assign = r.assign) (h5 : r'.body = r.body) (h6 : r'.tmps = r.tmps) :
    Step ρ H w ρ ⟨H.next, H.blks.set k (.loop busy' t nt ps as bd)⟩ (w.putObj I.B (.loop r')) := by
  obtain ⟨⟨r0, g0, g1, g2, g3, g4, g5, g6, g7⟩, hall⟩ := loop_get hr hI hg
  rw [h0] at g0; cases g0
  have hlt := hr.lt _ _ _ hI
  refine poke_step hr hI hg rfl rfl ?_ hall
  intro x J hJ hB
  obtain ⟨rfl, _⟩ := hr.blk _ _ _ _ hJ hg
  refine ⟨rfl, r', ?_, h1, h2, by rw [h3]; exact g3, h4.trans g4, h5.trans g5, by rw [h6]; exact g6, by rw [h6]; exact g7⟩
  rw [hB]
  exact World.putObj_heap_same hlt.2.1
theorem gone_step (hr : HRel ρ H w) {k : Nat} {I : Inc} {o : AObj} {o' : Obj} (hI : ρ k 0 = some I) (hg : H.blks.get k = some o) (hro : o.ro = false) (hall : ∀ x J, ρ k x = some J → J.B = I.B) :
    Step ρ H w ρ ⟨H.next, H.blks.set k .gone⟩ (w.putObj I.B o') :=
  poke_step hr hI hg hro rfl (fun _ _ _ _ => trivial) hall

/-! Deferred calls. -/
inductive AD where
  | fn (f : Nat) (args cap : List AV)
  | mark (k : Nat)

def DRel1 (ρ : Rho) : AD → Deferred → Prop
  | .fn f args cap, d => ∃ c', d.target = .fn (.func f) c' ∧ RL ρ args d.args.toList ∧ RL ρ cap c'.toList
  | .mark k, d => ∃ I, ρ k 0 = some I ∧ d.target = .collected I.B
def DRel (ρ : Rho) : List AD → List Deferred → Prop
  | [], l => l = []
  | a :: as, l => ∃ d l', l = d :: l' ∧ DRel1 ρ a d ∧ DRel ρ as l'
theorem DRel1.mono {ρ ρ' : Rho} (h : Ext ρ ρ') {a : AD} {d : Deferred} (hr : DRel1 ρ a d) : DRel1 ρ' a d := by
  cases a with
  | fn f args cap =>
    obtain ⟨c', h1, h2, h3⟩ := hr
    exact ⟨c', h1, RL.mono h _ _ h2, RL.mono h _ _ h3⟩
  | mark k =>
    obtain ⟨I, h1, h2⟩ := hr
    exact ⟨I, h _ _ _ h1, h2⟩
theorem DRel.mono {ρ ρ' : Rho} (h : Ext ρ ρ') : ∀ {as : List AD} {l : List Deferred}, DRel ρ as l → DRel ρ' as l
  | [], _, hr => hr
  | _ :: _, _, ⟨d, l', h1, h2, h3⟩ => ⟨d, l', h1, h2.mono h, DRel.mono h h3⟩

structure CSt where
  s : St
  ds : List AD

def PostC (gl : Nat → Nat) (nt : Nat) (ρ : Rho) (H : AHeap) (w : World) (c : CSt) (a : Act) (w' : World) : Prop :=
  ∃ ρ', Step ρ H w ρ' c.s.H w' ∧ TRel ρ' c.s.t a.tmps ∧ nt ≤ a.tmps.size ∧ DRel ρ' c.ds a.defers

noncomputable def evDefer (e : Operand → AV) (c : Call) : Option AD :=
  match c.callee with
  | .value f => (match e f with | .func (.func g) first cap => some (.fn g (catV first (mapO e c.args.toList)) cap) | _ => none)
  | _ => none

theorem evDefer_ok {e : Operand → AV} {ec : Operand → Value} (hx : ∀ x, R ρ (e x) (ec x)) {c : Call} {ty : TypeId} {d : AD} (h : evDefer e c = some d) :
    ∃ dd, (resolve ec c ty).run P w = .ok dd w ∧ DRel1 ρ d dd := by
  unfold evDefer at h
  split at h
  case h_2 => cases h
  rename_i f hcal
  split at h
  case h_2 => cases h
  rename_i g first cap hf
  injection h with h; subst h
  have hff := hx f
  rw [hf] at hff
  simp only [R] at hff
  obtain ⟨f', c', hev, h1, h2⟩ := hff
  refine ⟨{ target := .fn (.func g) c', args := f' ++ c.args.map ec }, by simp [resolve, hcal, hev, Deferred.ofValue], c', rfl, ?_, h2⟩
  rw [catV_eq]
  simp only [Array.toList_append, Array.toList_map]
  exact RL.append h1 (mapO_ok hx _)

noncomputable def evSeqStepC (P : Program) (gl : Nat → Nat) (O : Orc) (call : CallF) (inr : Bool) (l : List Oper) (nt : Nat) (o : Oper) (c : CSt) : Option CSt :=
  match o.op with
  | .defer k =>
    bif inr then none else
    match wantedA l c.s.t o.guard with
    | some true =>
      match evDefer (opd gl c.s.t) k with
      | some d => (match putA nt c.s.t o.dst undefA with | some t' => some ⟨⟨t', c.s.H⟩, d :: c.ds⟩ | none => none)
      | none => none
    | some false => (match putA nt c.s.t o.dst undefA with | some t' => some ⟨⟨t', c.s.H⟩, c.ds⟩ | none => none)
    | none => none
  | _ => (match evSeqStep P gl O call l nt o c.s with | some s' => some ⟨s', c.ds⟩ | none => none)

noncomputable def evSeqC (P : Program) (gl : Nat → Nat) (O : Orc) (call : CallF) (inr : Bool) (l : List Oper) (nt : Nat) (rest : List Oper) : CSt → Option CSt :=
  List.rec (motive := fun _ => CSt → Option CSt) (fun st => some st) (fun o _ ih st => match evSeqStepC P gl O call inr l nt o st with | some st' => ih st' | none => none) rest

theorem evSeqC_ok {gl : Nat → Nat} {O : Orc} {wB : World} {M : Nat → Prop} (hO : OrcOk P gl wB M O) {call : CallF} {nt : Nat} (hn : NoGo P) (hcall : CallOk P gl call) {ops : Array Oper} (hd : dstsOk ops nt) {Q : Exit → Act → World → Prop} {ρ0 : Rho} {H0 : AHeap} {w0 : World} (hG0 : Good gl wB M ρ0 H0 w0) {ro : Option Nat} {n : Nat} {inr : Bool} (hinr : inr = ro.isSome) :
    ∀ (rest : List Oper) (k : Nat) (st st' : CSt) (ρ : Rho) (a : Act) (w : World), ops.toList.drop k = rest → evSeqC P gl O call inr ops.toList nt rest st = some st' → Step ρ0 H0 w0 ρ st.s.H w → GRel gl ρ → TRel ρ st.s.t a.tmps → nt ≤ a.tmps.size → DRel ρ st.ds a.defers →
      (∀ a' w', PostC gl nt ρ0 H0 w0 st' a' w' → Q .normal a' w') → wpOpsIn (W ro) n P ops Q (List.range' k rest.length) a w
  | [], k, st, st', ρ, a, w, hk, h, hst, hg, ht, hs, hds, hQ => by
    injection h with h; subst h
    exact hQ a w ⟨ρ, hst, ht, hs, hds⟩
  | o :: rest, k, st, st', ρ, a, w, hk, h, hst, hg, ht, hs, hds, hQ => by
    replace h : (match evSeqStepC P gl O call inr ops.toList nt o st with | some st1 => evSeqC P gl O call inr ops.toList nt rest st1 | none => none) = some st' := h
    split at h
    case h_2 => cases h
    rename_i st1 hst1
    have hok : ops[k]? = some o := by
      have : ops.toList[k]? = some o := by
        have h2 := congrArg List.head? hk
        simpa [List.head?_drop] using h2
      simpa using this
    have hk' : ops.toList.drop (k + 1) = rest := by
      have h2 := congrArg List.tail hk
      simpa [List.tail_drop] using h2
    rw [List.length_cons, List.range'_succ]
    show wpOpsIn (W ro) n P ops Q (k :: List.range' (k + 1) rest.length) a w
    unfold wpOpsIn
    rw [hok]
    simp only
    have hlen : ∀ j, j < ops.size → ∀ d, ((ops[j]?).bind (·.dst)) = some d → d < a.tmps.size := fun j hj d h => Nat.lt_of_lt_of_le (hd j hj d h) hs
    unfold evSeqStepC at hst1
    split at hst1
    · rename_i kc hdef
      cases hi : inr with
      | true => rw [hi] at hst1; cases hst1
      | false =>
        rw [hi] at hst1
        simp only [cond_false] at hst1
        have hro : ro = none := by
          rw [hi] at hinr
          cases ro with
          | none => rfl
          | some l => cases hinr
        subst hro
        split at hst1
        · rename_i hw
          have hw' := wantedA_ok ht hlen hw
          split at hst1
          case h_2 => cases hst1
          rename_i d hd1
          split at hst1
          case h_2 => cases hst1
          rename_i t' hput
          injection hst1 with hst1; subst hst1
          rw [hw', if_pos rfl]
          obtain ⟨dd, h1, h2⟩ := evDefer_ok (P := P) (w := w) (ty := o.type) (fun x => opd_ok hg ht x) hd1
          refine ⟨fun _ _ => trivial, ?_⟩
          have hrun : ((o.semAt (W none).round a.eval).run P w) = .ok (.defer dd) w := by
            rw [Oper.semAt_none]
            simp [execOp, hdef, h1]
          rw [hrun, Oper.uponIn_defer]
          obtain ⟨g1, g2, g3⟩ := putA_ok (a := { a with defers := dd :: a.defers }) hput ht hs R_undef
          exact evSeqC_ok hO hn hcall hd hG0 hinr rest (k + 1) ⟨⟨t', st.s.H⟩, d :: st.ds⟩ st' ρ _ w hk' h hst hg g1 g2 ⟨dd, a.defers, g3, h2, hds⟩ hQ
        · rename_i hw
          have hw' := wantedA_ok ht hlen hw
          split at hst1
          case h_2 => cases hst1
          rename_i t' hput
          injection hst1 with hst1; subst hst1
          rw [hw', if_neg (by simp)]
          obtain ⟨h1, h2, h3⟩ := putA_ok hput ht hs R_undef
          refine ⟨fun _ _ => trivial, ?_⟩
          exact evSeqC_ok hO hn hcall hd hG0 hinr rest (k + 1) ⟨⟨t', st.s.H⟩, st.ds⟩ st' ρ _ w hk' h hst hg h1 h2 (by rw [h3]; exact hds) hQ
        · cases hst1
    · split at hst1
      case h_2 => cases hst1
      rename_i s1 hs1
      injection hst1 with hst1; subst hst1
      unfold evSeqStep at hs1
      split at hs1
      · rename_i hw
        have hw' := wantedA_ok ht hlen hw
        split at hs1
        case h_2 => cases hs1
        rename_i v H' hany
        split at hs1
        case h_2 => cases hs1
        rename_i t' hput
        injection hs1 with hs1; subst hs1
        rw [hw', if_pos rfl]
        refine evAny_ok hO hn hcall (hG0.step hst) (fun x => opd_ok hg ht x) hany ?_
        intro u w' ρ' hu hstep
        obtain ⟨h1, h2, h3⟩ := putA_ok hput (ht.mono hstep.ext) hs hu
        exact evSeqC_ok hO hn hcall hd hG0 hinr rest (k + 1) ⟨⟨t', H'⟩, st.ds⟩ st' ρ' _ w' hk' h (Step.trans hG0.rel hst hstep) (hg.mono hstep.ext) h1 h2 (by rw [h3]; exact hds.mono hstep.ext) hQ
      · rename_i hw
        have hw' := wantedA_ok ht hlen hw
        split at hs1
        case h_2 => cases hs1
        rename_i t' hput
        injection hs1 with hs1; subst hs1
        rw [hw', if_neg (by simp)]
        obtain ⟨h1, h2, h3⟩ := putA_ok hput ht hs R_undef
        refine ⟨fun _ _ => trivial, ?_⟩
        exact evSeqC_ok hO hn hcall hd hG0 hinr rest (k + 1) ⟨⟨t', st.s.H⟩, st.ds⟩ st' ρ _ w hk' h hst hg h1 h2 (by rw [h3]; exact hds) hQ
      · cases hs1

end Go.Ev

/- Whole bodies. -/
namespace Go.Ev
variable {P : Program} {ρ : Rho} {H : AHeap} {w : World}

inductive Ex where
  | normal
  | exit (id : Nat)
  | ret

def Ex.to : Ex → Exit
  | .normal => .normal
  | .exit id => .exit id
  | .ret => .ret

noncomputable def dstsB (nt : Nat) (l : List Oper) : Bool :=
  List.rec (motive := fun _ => Bool) true (fun o _ ih => bif (match o.dst with | some d => Nat.blt d nt | none => true) then ih else false) l
theorem dstsB_ok {nt : Nat} : ∀ {l : List Oper}, dstsB nt l = true → ∀ o ∈ l, ∀ d, o.dst = some d → d < nt
  | [], _, o, h, _, _ => by cases h
  | x :: l, h, o, ho, d, hd => by
    replace h : (bif (match x.dst with | some d => Nat.blt d nt | none => true) then dstsB nt l else false) = true := h
    cases hx : (match x.dst with | some d => Nat.blt d nt | none => true) with
    | false => rw [hx] at h; cases h
    | true =>
      rw [hx] at h
      rcases List.mem_cons.1 ho with rfl | ho
      · rw [hd] at hx; simpa [Nat.blt_eq] using hx
      · exact dstsB_ok h o ho d hd
theorem dstsB_dsts {nt : Nat} {ops : Array Oper} (h : dstsB nt ops.toList = true) : dstsOk ops nt := by
  intro j hj d hd
  obtain ⟨o, ho, hod⟩ := Option.bind_eq_some_iff.1 hd
  exact dstsB_ok h o (by have := Array.mem_of_getElem? ho; simpa using this) d hod

noncomputable def evRegion (P : Program) (gl : Nat → Nat) (O : Orc) (call : CallF) (inr : Bool) (nt : Nat) (ops : Array Oper) (draw : Bool) (c : CSt) : Option CSt :=
  bif dstsB nt ops.toList then
    (bif draw then (match evDrn P gl O call ops nt c.s with | some s => some ⟨s, c.ds⟩ | none => none) else evSeqC P gl O call inr ops.toList nt ops.toList c)
  else none

/-- A loop over a function: its record, the block for its rounds' deferred calls, the one call. -/
noncomputable def evRange (gl : Nat → Nat) (call : CallF) (nt : Nat) (g : Operand) (ps : Array Tmp) (as bd : Code) (c : CSt) : Option CSt :=
  match opd gl c.s.t g with
  | .func (.func gf) first cap =>
    match call (.fn gf) (catV first (.yield (Nat.succ c.s.H.next) :: cap)) ⟨Nat.succ (Nat.succ c.s.H.next), (c.s.H.blks.set c.s.H.next .defs).set (Nat.succ c.s.H.next) (.loop false c.s.t nt ps.toList as bd)⟩ with
    | some (_, H2) =>
      match H2.blks.get (Nat.succ c.s.H.next) with
      | some (.loop false _ _ _ _ _) => some ⟨⟨c.s.t, ⟨H2.next, H2.blks.set (Nat.succ c.s.H.next) .gone⟩⟩, .mark c.s.H.next :: c.ds⟩
      | _ => none
    | none => none
  | _ => none

noncomputable def evStepC (P : Program) (gl : Nat → Nat) (O : Orc) (call : CallF) (inr : Bool) (nt : Nat) (ih : Code → CSt → Option (Ex × CSt)) (c : Code) (st : CSt) : Option (Ex × CSt) :=
  match c with
  | .skip => some (.normal, st)
  | .region _ ops draw => (match evRegion P gl O call inr nt ops draw st with | some st' => some (.normal, st') | none => none)
  | .seq x y =>
    (match ih x st with
    | some (.normal, st') => ih y st'
    | r => r)
  | .cond c x y => (match opd gl st.s.t c with | .bool b => ih (bif b then x else y) st | _ => none)
  | .block id b =>
    (match ih b st with
    | some (.exit id', st') => some (bif Nat.beq id' id then .normal else .exit id', st')
    | r => r)
  | .loop b =>
    (match ih b st with
    | some (.normal, st') => ih (.loop b) st'
    | r => r)
  | .rangeFunc g ps as bd => bif inr then none else (match evRange gl call nt g ps as bd st with | some st' => some (.normal, st') | none => none)
  | .exit id => some (.exit id, st)
  | .ret => some (.ret, st)
  | _ => none

noncomputable def evCode (P : Program) (gl : Nat → Nat) (O : Orc) (call : CallF) (inr : Bool) (nt : Nat) (fuel : Nat) : Code → CSt → Option (Ex × CSt) :=
  Nat.rec (motive := fun _ => Code → CSt → Option (Ex × CSt)) (fun _ _ => none) (fun _ ih => evStepC P gl O call inr nt ih) fuel

theorem evRegion_ok {gl : Nat → Nat} {O : Orc} {wB : World} {M : Nat → Prop} (hO : OrcOk P gl wB M O) {call : CallF} {nt : Nat} (hn : NoGo P) (hcall : CallOk P gl call) (hm : P.follows .mixedOrders = true) {ops : Array Oper} {draw : Bool} {st st' : CSt} {a : Act} {ro : Option Nat} {n : Nat} {inr : Bool} (hinr : inr = ro.isSome)
    (hG : Good gl wB M ρ st.s.H w) (ht : TRel ρ st.s.t a.tmps) (hs : nt ≤ a.tmps.size) (hds : DRel ρ st.ds a.defers) (h : evRegion P gl O call inr nt ops draw st = some st') {id : Nat} {Q : Exit → Act → World → Prop}
    (hQ : ∀ a' w', PostC gl nt ρ st.s.H w st' a' w' → Q .normal a' w') : (Code.region id ops draw).wpIn (W ro) n P Q a w := by
  have hr := hG.rel
  have hg := hG.glo
  unfold evRegion at h
  cases hd : dstsB nt ops.toList with
  | false => rw [hd] at h; cases h
  | true =>
    rw [hd] at h
    simp only [cond_true] at h
    have hd' := dstsB_dsts hd
    cases draw with
    | true =>
      simp only [cond_true] at h
      split at h
      case h_2 => cases h
      rename_i s1 h1
      injection h with h; subst h
      refine evDrn_ok hO hn hcall hm hd' hG ht hs h1 ?_
      rintro a' w' ⟨ρ', g1, g2, g3, g4⟩
      exact hQ a' w' ⟨ρ', g1, g2, g3, by rw [g4]; exact hds.mono g1.ext⟩
    | false =>
      refine wpIn_region ?_
      have := evSeqC_ok hO hn hcall hd' (Q := Q) (ro := ro) (n := n) hG hinr ops.toList 0 st st' ρ a w (by simp) h (Step.refl hr) hg ht hs hds hQ
      simpa [List.range_eq_range'] using this

theorem evRange_ok {gl : Nat → Nat} {call : CallF} {nt : Nat} (hn : NoGo P) (hcall : CallOk P gl call) {g : Operand} {ps : Array Tmp} {as bd : Code} {st st' : CSt} {a : Act} {n : Nat}
    (hr : HRel ρ st.s.H w) (hg : GRel gl ρ) (ht : TRel ρ st.s.t a.tmps) (hs : nt ≤ a.tmps.size) (hds : DRel ρ st.ds a.defers) (h : evRange gl call nt g ps as bd st = some st') {Q : Exit → Act → World → Prop}
    (hQ : ∀ a' w', PostC gl nt ρ st.s.H w st' a' w' → Q .normal a' w') : (Code.rangeFunc g ps as bd).wpIn (W none) n P Q a w := by
  unfold evRange at h
  split at h
  case h_2 => cases h
  rename_i gf first cap hgv
  split at h
  case h_2 => cases h
  rename_i v H2 hc
  split at h
  case h_2 => cases h
  rename_i t2 nt2 ps2 as2 bd2 hl2
  injection h with h; subst h
  have hgg := opd_ok hg ht g
  rw [hgv] at hgg
  simp only [R] at hgg
  obtain ⟨f', c', hev, hf1, hc1⟩ := hgg
  obtain ⟨⟨fn, hfn, hbody⟩, hC⟩ := hcall.fn _ _ _ _ _ hc
  -- the block of the deferred calls
  obtain ⟨ρ1, s1, hR1⟩ := alloc_step (P := P) (o := .defs) (f := fun id => .yield id) (n := 0) (v := .func (.yield w.heap.size) #[] #[]) (o' := .deferred (some [])) hr (by
    intro ρ' id hx hi
    refine ⟨by simp only [R]; exact ⟨_, hi, rfl⟩, rfl, ?_⟩
    exact heap_alloc_new)
  simp only [R] at hR1
  obtain ⟨I1, hI1, hB1⟩ := hR1
  injection hB1 with hB1
  injection hB1 with hB1
  refine wpIn_rangeFunc (F := W none) ?_
  intro fnid _
  -- the record
  obtain ⟨ρ2, s2, hR2⟩ := alloc_step (P := P) (o := .loop false st.s.t nt ps.toList as bd) (f := fun id => .yield id) (n := 0) (v := .func (.yield (w.heap.size + 1)) #[] #[])
    (o' := .loop { state := .ready, pending := none, fn := fnid, tmps := a.tmps, params := ps, assign := as, body := bd, defers := w.heap.size }) s1.rel (by
    intro ρ' id hx hi
    refine ⟨by simp only [R]; exact ⟨_, hi, by rw [World.size_alloc]⟩, rfl, _, heap_alloc_new, rfl, rfl, rfl, rfl, rfl, hs, (ht.mono s1.ext).mono hx⟩)
  simp only [R] at hR2
  obtain ⟨I2, hI2, hB2⟩ := hR2
  injection hB2 with hB2
  injection hB2 with hB2
  have hg2 : GRel gl ρ2 := (hg.mono s1.ext).mono s2.ext
  have hargs : RL ρ2 (catV first (.yield (Nat.succ st.s.H.next) :: cap)) ((f' ++ #[Value.func (.yield (w.heap.size + 1)) #[] #[]]) ++ c').toList := by
    rw [catV_eq]
    simp only [Array.toList_append, List.append_assoc]
    refine RL.append (RL.mono (s1.ext.trans s2.ext) _ _ hf1) ?_
    refine RL_cons.2 ⟨_, _, rfl, ?_, RL.mono (s1.ext.trans s2.ext) _ _ hc1⟩
    simp only [R]
    exact ⟨I2, hI2, by rw [hB2]⟩
  refine ⟨w.heap.size + 1, _, _, { target := .fn (.func gf) c', args := f' ++ #[Value.func (.yield (w.heap.size + 1)) #[] #[]] }, ((w.alloc (.deferred (some []))).alloc (.loop { state := .ready, pending := none, fn := fnid, tmps := a.tmps, params := ps, assign := as, body := bd, defers := w.heap.size })), gf, _, ((w.alloc (.deferred (some []))).alloc (.loop { state := .ready, pending := none, fn := fnid, tmps := a.tmps, params := ps, assign := as, body := bd, defers := w.heap.size })), run_enterLoop_outer fnid a.tmps ps as bd, ?_, fun _ _ => trivial,
    run_callFunc hn hfn hbody _, fun h => (by cases h), ?_⟩
  · have hev2 : a.eval g = .func (.func gf) f' c' := hev
    rw [show resolve a.eval (rangeCall g (w.heap.size + 1)) 0 = Deferred.ofValue (a.eval g) #[Value.func (.yield (w.heap.size + 1)) #[] #[]] from (by unfold resolve rangeCall; simp only [List.map_toArray, List.map_cons, List.map_nil]; rfl), hev2]
    simp [Deferred.ofValue]
  · have hcalls := hC ρ2 _ _ s2.rel hg2 hargs
    have hc2 : CallsIn Fence.wide (n - 1) P gf _ _ _ := callsIn_wide.2 hcalls
    refine CallsIn.mono (F := W none) hc2 ?_
    rintro en w3 ⟨ρ3, u, rfl, _, s3⟩
    have hI3 := s3.ext _ _ _ hI2
    obtain ⟨⟨r, g0, g1, g2, _⟩, hall⟩ := loop_get s3.rel hI3 hl2
    have hpend : r.state ≠ .busy := by rw [g1]; simp
    rw [← hB2] at g0
    have hend := run_endLoop (P := P) g0 hpend
    rw [g2] at hend
    refine ⟨none, _, hend, ?_⟩
    have s4 := gone_step (o' := .loop { r with state := .exhausted, pending := none }) s3.rel hI3 hl2 rfl hall
    rw [← hB2] at s4
    have hst : Step ρ st.s.H w ρ3 ⟨H2.next, H2.blks.set (Nat.succ st.s.H.next) .gone⟩ _ := Step.trans hr s1 (Step.trans s1.rel s2 (Step.trans s2.rel s3 s4))
    refine hQ _ _ ⟨ρ3, hst, ((ht.mono s1.ext).mono s2.ext).mono s3.ext, hs, ?_⟩
    refine ⟨_, a.defers, rfl, ⟨I1, s3.ext _ _ _ (s2.ext _ _ _ hI1), ?_⟩, ((hds.mono s1.ext).mono s2.ext).mono s3.ext⟩
    show Target.collected w.heap.size = .collected I1.B
    rw [← hB1]

end Go.Ev

/- Whole bodies: what is evaluated, runs. -/
namespace Go.Ev
variable {P : Program} {ρ : Rho} {H : AHeap} {w : World}

theorem evCode_ok {gl : Nat → Nat} {O : Orc} {wB : World} {M : Nat → Prop} (hO : OrcOk P gl wB M O) {call : CallF} {nt : Nat} (hn : NoGo P) (hcall : CallOk P gl call) (hm : P.follows .mixedOrders = true) {ro : Option Nat} {n : Nat} {inr : Bool} (hinr : inr = ro.isSome) :
    ∀ (fuel : Nat) (c : Code) (st : CSt) (ex : Ex) (st' : CSt), evCode P gl O call inr nt fuel c st = some (ex, st') →
    ∀ (ρ : Rho) (w : World) (a : Act), Good gl wB M ρ st.s.H w → TRel ρ st.s.t a.tmps → nt ≤ a.tmps.size → DRel ρ st.ds a.defers → ∀ (Q : Exit → Act → World → Prop),
      (∀ a' w', PostC gl nt ρ st.s.H w st' a' w' → Q ex.to a' w') → c.wpIn (W ro) n P Q a w ∧ ∀ b, c = .loop b → Code.roundsIn (W ro) n P b Q fuel a w := by
  intro fuel
  induction fuel with
  | zero => intro c st ex st' h; cases h
  | succ fuel ih =>
    intro c st ex st' h ρ w a hG ht hs hds Q hQ
    have hr := hG.rel
    have hg := hG.glo
    replace h : evStepC P gl O call inr nt (evCode P gl O call inr nt fuel) c st = some (ex, st') := h
    unfold evStepC at h
    have two : ∀ {x : Code} {st1 : CSt} {next : Act → World → Prop}, evCode P gl O call inr nt fuel x st = some (.normal, st1) →
        (∀ a1 w1 ρ1, Step ρ st.s.H w ρ1 st1.s.H w1 → TRel ρ1 st1.s.t a1.tmps → nt ≤ a1.tmps.size → DRel ρ1 st1.ds a1.defers → next a1 w1) → x.wpIn (W ro) n P (Exit.then next Q) a w := by
      intro x st1 next hx hnext
      refine (ih x st _ st1 hx ρ w a hG ht hs hds _ ?_).1
      rintro a1 w1 ⟨ρ1, h1, h2, h3, h4⟩
      exact hnext a1 w1 ρ1 h1 h2 h3 h4
    have out : ∀ {x : Code} {next : Act → World → Prop}, evCode P gl O call inr nt fuel x st = some (ex, st') → ex ≠ .normal → x.wpIn (W ro) n P (Exit.then next Q) a w := by
      intro x next hx hne
      refine (ih x st ex st' hx ρ w a hG ht hs hds _ ?_).1
      intro a1 w1 hp
      have := hQ a1 w1 hp
      cases ex with
      | normal => exact absurd rfl hne
      | exit id => exact this
      | ret => exact this
    have later : ∀ {st1 : CSt} {w1 : World} {ρ1 : Rho}, Step ρ st.s.H w ρ1 st1.s.H w1 → ∀ a' w', PostC gl nt ρ1 st1.s.H w1 st' a' w' → Q ex.to a' w' := by
      intro st1 w1 ρ1 hst a' w' ⟨ρ2, h1, h2, h3, h4⟩
      exact hQ a' w' ⟨ρ2, Step.trans hr hst h1, h2, h3, h4⟩
    split at h
    · injection h with h
      simp only [Prod.mk.injEq] at h
      obtain ⟨rfl, rfl⟩ := h
      exact ⟨wpIn_skip (hQ a w ⟨ρ, Step.refl hr, ht, hs, hds⟩), fun b h => by cases h⟩
    · split at h
      case h_2 => cases h
      rename_i st1 h1
      injection h with h
      simp only [Prod.mk.injEq] at h
      obtain ⟨rfl, rfl⟩ := h
      exact ⟨evRegion_ok hO hn hcall hm hinr hG ht hs hds h1 hQ, fun b h => by cases h⟩
    · rename_i x y
      refine ⟨wpIn_seq ?_, fun b h => by cases h⟩
      split at h
      · rename_i st1 h1
        refine two h1 ?_
        intro a1 w1 ρ1 g1 g2 g3 g4
        exact (ih y st1 ex st' h ρ1 w1 a1 (hG.step g1) g2 g3 g4 Q (later g1)).1
      · rename_i hnn
        refine out h ?_
        intro e; subst e
        exact hnn st' h
    · rename_i c x y
      refine ⟨?_, fun b h => by cases h⟩
      split at h
      case h_2 => cases h
      rename_i b hb
      have hcb := opd_ok hg ht c
      rw [hb] at hcb
      simp only [R] at hcb
      refine wpIn_cond hcb ?_
      have := (ih _ st ex st' h ρ w a hG ht hs hds Q hQ).1
      cases b <;> exact this
    · rename_i id b
      refine ⟨wpIn_block ?_, fun b h => by cases h⟩
      split at h
      · rename_i id' st1 h1
        injection h with h
        simp only [Prod.mk.injEq] at h
        obtain ⟨rfl, rfl⟩ := h
        refine (ih b st _ st1 h1 ρ w a hG ht hs hds _ ?_).1
        intro a1 w1 hp
        have := hQ a1 w1 hp
        show (if id' = id then Q .normal a1 w1 else Q (.exit id') a1 w1)
        by_cases e : id' = id
        · subst e
          rw [if_pos rfl]
          rw [show Nat.beq id' id' = true from by simp] at this
          exact this
        · rw [if_neg e]
          have hb : Nat.beq id' id = false := by
            cases hb : Nat.beq id' id with
            | false => rfl
            | true => exact absurd (Nat.eq_of_beq_eq_true hb) e
          rw [hb] at this
          exact this
      · rename_i hnn
        refine (ih b st _ st' h ρ w a hG ht hs hds _ ?_).1
        intro a1 w1 hp
        have := hQ a1 w1 hp
        cases ex with
        | normal => exact this
        | exit id' => exact absurd h (hnn id' st')
        | ret => exact this
    · rename_i b
      have hr : Code.roundsIn (W ro) n P b Q (fuel + 1) a w := by
        rw [roundsIn_succ]
        split at h
        · rename_i st1 h1
          refine two h1 ?_
          intro a1 w1 ρ1 g1 g2 g3 g4
          exact (ih (.loop b) st1 ex st' h ρ1 w1 a1 (hG.step g1) g2 g3 g4 Q (later g1)).2 b rfl
        · rename_i hnn
          refine out h ?_
          intro e; subst e
          exact hnn st' h
      refine ⟨wpIn_loop_rounds _ hr, ?_⟩
      intro b' e
      cases e
      exact hr
    · cases hi : inr with
      | true => rw [hi] at h; cases h
      | false =>
        rw [hi] at h
        simp only [cond_false] at h
        have hro : ro = none := by
          rw [hi] at hinr
          cases ro with
          | none => rfl
          | some l => cases hinr
        subst hro
        split at h
        case h_2 => cases h
        rename_i st1 h1
        injection h with h
        simp only [Prod.mk.injEq] at h
        obtain ⟨rfl, rfl⟩ := h
        exact ⟨evRange_ok hn hcall hr hg ht hs hds h1 hQ, fun b h => by cases h⟩
    · injection h with h
      simp only [Prod.mk.injEq] at h
      obtain ⟨rfl, rfl⟩ := h
      exact ⟨wpIn_exit (hQ a w ⟨ρ, Step.refl hr, ht, hs, hds⟩), fun b h => by cases h⟩
    · injection h with h
      simp only [Prod.mk.injEq] at h
      obtain ⟨rfl, rfl⟩ := h
      exact ⟨wpIn_ret (hQ a w ⟨ρ, Step.refl hr, ht, hs, hds⟩), fun b h => by cases h⟩
    · cases h

end Go.Ev

/- Whole calls. -/
namespace Go.Ev
variable {P : Program} {ρ : Rho} {H : AHeap} {w : World}

/-! Calls. -/
noncomputable def fillArgs (l : List AV) : Nat → T AV → T AV :=
  List.rec (motive := fun _ => Nat → T AV → T AV) (fun _ t => t) (fun a _ ih i t => ih (Nat.succ i) (t.set i a)) l
theorem look_fillArgs : ∀ (l : List AV) (i : Nat) (t : T AV) (k : Nat), look (fillArgs l i t) k = if i ≤ k then (l[k - i]?).getD (look t k) else look t k
  | [], i, t, k => by show look t k = _; simp
  | a :: l, i, t, k => by
    show look (fillArgs l (i + 1) (t.set i a)) k = _
    rw [look_fillArgs l (i + 1) (t.set i a) k]
    by_cases h1 : i + 1 ≤ k
    · rw [if_pos h1, if_pos (by omega), look_set_ne _ _ (by omega)]
      obtain ⟨m, hm⟩ : ∃ m, k - i = m + 1 := ⟨k - i - 1, by omega⟩
      rw [hm, show k - (i + 1) = m from by omega]; simp
    · rw [if_neg h1]
      by_cases h2 : i = k
      · subst h2; rw [look_set_same, if_pos (Nat.le_refl _)]; simp
      · rw [look_set_ne _ _ (by omega), if_neg (by omega)]

theorem fillArgs_ok {l : List AV} {vs : Array Value} {n : Nat} (h : RL ρ l vs.toList) : TRel ρ (fillArgs l 0 .leaf) (vs ++ Array.replicate n undef) := by
  intro k
  rw [look_fillArgs, if_pos (Nat.zero_le _), Nat.sub_zero, look_leaf]
  have hlen := RL.length h
  by_cases hk : k < l.length
  · obtain ⟨u, hu, hR⟩ := RL.get h (List.getElem?_eq_getElem hk)
    have hk2 : k < vs.size := by simpa [hlen] using hk
    rw [List.getElem?_eq_getElem hk, Option.getD_some, Array.getD_eq_getD_getElem?, Array.getElem?_append_left hk2]
    rw [show vs[k]? = some u by simpa using hu]
    exact hR
  · rw [List.getElem?_eq_none (by omega), Option.getD_none, Array.getD_eq_getD_getElem?, Array.getElem?_append_right (by simp at hlen; omega), Array.getElem?_replicate]
    split
    · exact R_undef
    · exact R_undef

noncomputable def evRes1 (P : Program) (st : St) (r : ResultVar) : Option AV :=
  match r with
  | .tmp t => some (look st.t t)
  | .cell a t => evLoad P st.H t (look st.t a)
noncomputable def evRes (P : Program) (st : St) (l : List ResultVar) : Option (List AV) :=
  List.rec (motive := fun _ => Option (List AV)) (some []) (fun r _ ih => match evRes1 P st r with | some v => (match ih with | some vs => some (v :: vs) | none => none) | none => none) l
noncomputable def oneOf (l : List AV) : AV :=
  match l with
  | [v] => v
  | l => .tuple l

theorem evRes1_ok {st : St} {tmps : Array Value} (hr : HRel ρ st.H w) (ht : TRel ρ st.t tmps) {r : ResultVar} {v : AV} (h : evRes1 P st r = some v) :
    ∃ u, (match r with | .tmp t => pure (tmps.getD t undef) | .cell a t => do loadVar t (← asAddr (tmps.getD a undef)) : Sem Value).run P w = .ok u w ∧ R ρ v u := by
  unfold evRes1 at h
  cases r with
  | tmp t =>
    simp only at h ⊢
    injection h with h; subst h
    exact ⟨_, by simp, ht t⟩
  | cell a t =>
    simp only at h ⊢
    have hR := ht a
    obtain ⟨u, h1, h2⟩ := evLoad_ok hr hR h
    refine ⟨u, ?_, h2⟩
    rw [← h1]
    unfold evLoad at h
    split at h
    case h_2 => cases h
    rename_i b i x lim heq
    rw [heq] at hR
    simp only [R] at hR
    obtain ⟨I, _, _, _, _, hv⟩ := hR
    rw [hv]
    simp [Instr.loadAt, Instr.sureAddr, asAddr]

theorem evRes_ok {st : St} {tmps : Array Value} (hr : HRel ρ st.H w) (ht : TRel ρ st.t tmps) : ∀ {l : List ResultVar} {vs : List AV}, evRes P st l = some vs →
    ∃ us, (l.mapM fun (r : ResultVar) => (match r with | .tmp t => pure (tmps.getD t undef) | .cell a t => do loadVar t (← asAddr (tmps.getD a undef)) : Sem Value)).run P w = .ok us w ∧ RL ρ vs us
  | [], vs, h => by injection h with h; subst h; exact ⟨[], by simp, by simp [RL]⟩
  | r :: l, vs, h => by
    replace h : (match evRes1 P st r with | some v => (match evRes P st l with | some vs => some (v :: vs) | none => none) | none => none) = some vs := h
    split at h
    case h_2 => cases h
    rename_i v hv
    split at h
    case h_2 => cases h
    rename_i vs' hvs
    injection h with h; subst h
    obtain ⟨u, h1, h2⟩ := evRes1_ok (P := P) hr ht hv
    obtain ⟨us, h3, h4⟩ := evRes_ok hr ht hvs
    refine ⟨u :: us, ?_, by rw [RL_cons_cons]; exact ⟨h2, h4⟩⟩
    rw [List.mapM_cons, Sem.run_bind, h1, Result.andThen_ok, Sem.run_bind, h3, Result.andThen_ok, Sem.run_pure]

theorem results_ok {st : St} {tmps : Array Value} (hr : HRel ρ st.H w) (ht : TRel ρ st.t tmps) {fn : Func} {vs : List AV} (h : evRes P st fn.results.toList = some vs) :
    ∃ u, (results fn tmps).run P w = .ok u w ∧ R ρ (oneOf vs) u := by
  obtain ⟨us, h1, h2⟩ := evRes_ok (P := P) hr ht h
  refine ⟨if h : us.toArray.size = 1 then us.toArray[0] else .tuple us.toArray, ?_, ?_⟩
  · unfold results
    rw [Sem.run_bind, Array.mapM_eq_mapM_toList, Sem.run_map]
    refine (congrArg (fun r => (Result.andThen (Result.andThen r fun a w' => Result.ok a.toArray w') fun a w' => Sem.run P (pure (if h : a.size = 1 then a[0] else Value.tuple a)) w')) h1).trans ?_
    rfl
  · match vs, us, h2 with
    | [], us, h2 => rw [RL_nil.1 h2]; simp [oneOf, R, RL]
    | [v], us, h2 =>
      obtain ⟨u, us', rfl, h3, h4⟩ := RL_cons.1 h2
      rw [RL_nil.1 h4]
      simpa [oneOf] using h3
    | v :: v' :: vs, us, h2 =>
      have h2' := h2
      obtain ⟨u, us', rfl, h3, h4⟩ := RL_cons.1 h2
      obtain ⟨u', us2, rfl, h5, h6⟩ := RL_cons.1 h4
      rw [dif_neg (by simp)]
      simp only [oneOf, R]
      exact ⟨_, rfl, by simpa using h2'⟩

/-! The way out: marks and deferred calls. -/
noncomputable def evLeave (call : CallF) (ds : List AD) : AHeap → Option AHeap :=
  List.rec (motive := fun _ => AHeap → Option AHeap) (fun H => some H)
    (fun d _ ih H => match d with
      | .mark k => (match H.blks.get k with | some .defs => ih ⟨H.next, H.blks.set k .gone⟩ | _ => none)
      | .fn f args cap => (match call (.dfn f) (catV args cap) H with | some (_, H') => ih H' | none => none)) ds

theorem evLeave_ok {gl : Nat → Nat} {call : CallF} (hn : NoGo P) (hcall : CallOk P gl call) {fn : Func} {tmps : Array Value} {R : Ending → World → Prop} {n : Nat} :
    ∀ (ds : List AD) (H H2 : AHeap) (ρ : Rho) (w : World) (l : List Deferred), evLeave call ds H = some H2 → HRel ρ H w → GRel gl ρ → DRel ρ ds l →
      (∀ ρ' w', Step ρ H w ρ' H2 w' → ∃ v, (results fn tmps).run P w' = .ok v w' ∧ R (.returned v) w') → LeavesInM (W none) n P fn tmps R l .returning w
  | [], H, H2, ρ, w, l, h, hr, hg, hd, hR => by
    injection h with h; subst h
    cases hd
    exact hR ρ w (Step.refl hr)
  | .mark k :: ds, H, H2, ρ, w, l, h, hr, hg, ⟨d, l', hl, hd, hds⟩, hR => by
    subst hl
    replace h : (match H.blks.get k with | some .defs => evLeave call ds ⟨H.next, H.blks.set k .gone⟩ | _ => none) = some H2 := h
    split at h
    case h_2 => cases h
    rename_i hk
    obtain ⟨I, hI, htar⟩ := hd
    obtain ⟨_, hb⟩ := hr.blk _ _ _ _ hI hk
    have hall : ∀ x J, ρ k x = some J → J.B = I.B := by
      intro x J hJ
      obtain ⟨rfl, _⟩ := hr.blk _ _ _ _ hJ hk
      rw [hI] at hJ; cases hJ; rfl
    have s1 := gone_step (o' := .deferred none) hr hI hk rfl hall
    refine ⟨by simp, .inl ⟨I.B, _, htar, run_takeDeferred hb, ?_⟩⟩
    exact evLeave_ok hn hcall ds _ H2 ρ _ l' h s1.rel hg hds (fun ρ' w' hs => hR ρ' w' (Step.trans hr s1 hs))
  | .fn f args cap :: ds, H, H2, ρ, w, l, h, hr, hg, ⟨d, l', hl, hd, hds⟩, hR => by
    subst hl
    replace h : (match call (.dfn f) (catV args cap) H with | some (_, H') => evLeave call ds H' | none => none) = some H2 := h
    split at h
    case h_2 => cases h
    rename_i v H' hc
    obtain ⟨⟨fn', hfn, hbody⟩, hC⟩ := hcall.dfn _ _ _ _ _ hc
    obtain ⟨c', htar, h1, h2⟩ := hd
    have hargs : RL ρ (catV args cap) (d.args ++ c').toList := by
      rw [catV_eq, Array.toList_append]
      exact RL.append h1 h2
    refine ⟨by simp, .inr ⟨fun h => (by cases h), .func f, c', f, d.args ++ c', htar, ?_, fun _ _ => trivial, (hC ρ w _ hr hg hargs (n - 1)).mono ?_⟩⟩
    · rw [htar]
      exact run_callFunc hn hfn hbody _
    · rintro en u w' ⟨rfl, ρ', v', rfl, hs⟩
      exact evLeave_ok hn hcall ds H' H2 ρ' w' l' h hs.rel (hg.mono hs.ext) (hds.mono hs.ext) (fun ρ2 w2 hs2 => hR ρ2 w2 (Step.trans hr hs hs2))

noncomputable def evFn (P : Program) (gl : Nat → Nat) (fuel : Nat) (ih : CallF) (f : Nat) (args : List AV) (H : AHeap) : Option (AV × AHeap) :=
  match nth P.funcs.toList f with
  | some fn =>
    match fn.body with
    | some c =>
      bif Nat.ble (len args) fn.ntmps then
        match evCode P gl O0 ih false fn.ntmps fuel c ⟨⟨fillArgs args 0 .leaf, H⟩, []⟩ with
        | some (.exit _, _) => none
        | some (_, st) =>
          match evLeave ih st.ds st.s.H with
          | some H2 => (match evRes P ⟨st.s.t, H2⟩ fn.results.toList with | some vs => some (oneOf vs, H2) | none => none)
          | none => none
        | none => none
      else none
    | none => none
  | none => none

theorem evFn_ok {gl : Nat → Nat} {fuel : Nat} (hn : NoGo P) (hm : P.follows .mixedOrders = true) {ih : CallF} (hcall : CallOk P gl ih) {f : Nat} {args : List AV} {v : AV} {H' : AHeap} (h : evFn P gl fuel ih f args H = some (v, H')) :
    (∃ fn, P.funcs[f]? = some fn ∧ fn.body.isSome = true) ∧ ∀ (ρ : Rho) (w : World) (vs : Array Value), HRel ρ H w → GRel gl ρ → RL ρ args vs.toList →
      Calls P f vs w fun en w' => ∃ ρ' u, en = .returned u ∧ R ρ' v u ∧ Step ρ H w ρ' H' w' := by
  unfold evFn at h
  split at h
  case h_2 => cases h
  rename_i fn hfn
  rw [nth_eq] at hfn
  have hfn' : P.funcs[f]? = some fn := by simpa using hfn
  split at h
  case h_2 => cases h
  rename_i c hc
  refine ⟨⟨fn, hfn', by rw [hc]; rfl⟩, ?_⟩
  intro ρ w vs hr hg hargs
  refine (callsIn_wide (n := 0)).1 ?_
  refine callsIn_of_wp_marks (F := W none) hfn' hc trivial ?_ rfl
  cases hb : Nat.ble (len args) fn.ntmps with
  | false => rw [hb] at h; cases h
  | true =>
    rw [hb] at h
    simp only [cond_true] at h
    have hle := Nat.le_of_ble_eq_true hb
    rw [len_eq] at hle
    have hsz := RL.length hargs
    have hsize : fn.ntmps ≤ (vs ++ Array.replicate (fn.ntmps - vs.size) undef).size := by
      simp; omega
    split at h
    case h_1 => cases h
    case h_3 => cases h
    rename_i ex st hnex hev
    split at h
    case h_2 => cases h
    rename_i H2 hlv
    split at h
    case h_2 => cases h
    rename_i rs hrs
    injection h with h
    simp only [Prod.mk.injEq] at h
    obtain ⟨rfl, rfl⟩ := h
    refine (evCode_ok O0_ok hn hcall hm (ro := none) rfl fuel c _ ex st hev ρ w { tmps := vs ++ Array.replicate (fn.ntmps - vs.size) undef, defers := [] } (Good.start hr hg) (fillArgs_ok hargs) hsize rfl _ ?_).1
    rintro a' w' ⟨ρ', h1, h2, h3, h4⟩
    have hleave : LeavesInM (W none) 0 P fn a'.tmps (fun en w' => ∃ ρ' u, en = .returned u ∧ R ρ' (oneOf rs) u ∧ Step ρ H w ρ' H2 w') a'.defers .returning w' := by
      refine evLeave_ok hn hcall st.ds st.s.H H2 ρ' w' a'.defers hlv h1.rel (hg.mono h1.ext) h4 ?_
      intro ρ2 w2 hs2
      obtain ⟨u, h5, h6⟩ := results_ok (P := P) (fn := fn) (st := ⟨st.s.t, H2⟩) hs2.rel (h2.mono hs2.ext) hrs
      exact ⟨u, h5, ρ2, u, rfl, h6, Step.trans hr h1 hs2⟩
    cases ex with
    | normal => exact hleave
    | ret => exact hleave
    | exit id => exact absurd rfl (hnex id)

/-! A round of a loop over a function. -/
noncomputable def setPs (nt : Nat) (ps : List Nat) : List AV → T AV → Option (T AV) :=
  List.rec (motive := fun _ => List AV → T AV → Option (T AV)) (fun l t => match l with | [] => some t | _ => none)
    (fun p _ ih l t => match l with | a :: l => (bif Nat.blt p nt then ih l (t.set p a) else none) | [] => none) ps

theorem setPs_ok {nt : Nat} : ∀ {ps : List Nat} {l : List AV} {vs : List Value} {t t' : T AV} {tmps : Array Value}, setPs nt ps l t = some t' → RL ρ l vs → TRel ρ t tmps → nt ≤ tmps.size →
    vs.length = ps.length ∧ TRel ρ t' ((ps.zip vs).foldl (fun tmps (t, a) => tmps.setIfInBounds t a) tmps) ∧ nt ≤ ((ps.zip vs).foldl (fun tmps (t, a) => tmps.setIfInBounds t a) tmps).size
  | [], [], vs, t, t', tmps, h, hl, ht, hs => by
    injection h with h; subst h
    rw [RL_nil.1 hl]
    exact ⟨rfl, ht, hs⟩
  | [], _ :: _, vs, t, t', tmps, h, _, _, _ => by cases h
  | p :: ps, [], vs, t, t', tmps, h, _, _, _ => by cases h
  | p :: ps, a :: l, vs, t, t', tmps, h, hl, ht, hs => by
    replace h : (bif Nat.blt p nt then setPs nt ps l (t.set p a) else none) = some t' := h
    cases hb : Nat.blt p nt with
    | false => rw [hb] at h; cases h
    | true =>
      rw [hb] at h
      simp only [cond_true] at h
      have hp : p < nt := by simpa [Nat.blt_eq] using hb
      obtain ⟨v, vs', rfl, h1, h2⟩ := RL_cons.1 hl
      obtain ⟨g1, g2, g3⟩ := setPs_ok (tmps := tmps.setIfInBounds p v) h h2 (ht.set (by omega) h1) (by simpa using hs)
      exact ⟨by simp [g1], g2, g3⟩

noncomputable def evRound (P : Program) (gl : Nat → Nat) (fuel : Nat) (ih : CallF) (k : Nat) (args : List AV) (H : AHeap) : Option (AV × AHeap) :=
  match H.blks.get k with
  | some (.loop false t nt ps as bd) =>
    match setPs nt ps args t with
    | some t' =>
      match evCode P gl O0 ih true nt fuel as ⟨⟨t', H⟩, []⟩ with
      | some (.normal, c1) =>
        match c1.s.H.blks.get k with
        | some (.loop false t1 nt1 ps1 as1 bd1) =>
          match evCode P gl O0 ih true nt fuel bd ⟨⟨c1.s.t, ⟨c1.s.H.next, c1.s.H.blks.set k (.loop true t1 nt1 ps1 as1 bd1)⟩⟩, c1.ds⟩ with
          | some (.normal, c2) =>
            match c2.s.H.blks.get k with
            | some (.loop true t2 nt2 ps2 as2 bd2) => some (.bool true, ⟨c2.s.H.next, c2.s.H.blks.set k (.loop false t2 nt2 ps2 as2 bd2)⟩)
            | _ => none
          | _ => none
        | _ => none
      | _ => none
    | none => none
  | _ => none

theorem evRound_ok {gl : Nat → Nat} {fuel : Nat} (hn : NoGo P) (hm : P.follows .mixedOrders = true) {ih : CallF} (hcall : CallOk P gl ih) {k : Nat} {args : List AV} {v : AV} {H' : AHeap} (h : evRound P gl fuel ih k args H = some (v, H')) :
    ∀ (ρ : Rho) (w : World) (vs : Array Value) (I : Inc), HRel ρ H w → GRel gl ρ → RL ρ args vs.toList → ρ k 0 = some I →
      ∃ r : Loop, w.heap[I.B]? = some (.loop r) ∧ vs.size = r.params.size ∧
        ∀ n, RoundIn (W none) n P I.B r.fn ((r.params.zip vs).foldl (fun tmps (t, a) => tmps.setIfInBounds t a) r.tmps) r.assign r.body w fun en w' => ∃ ρ' u, en = .returned u ∧ R ρ' v u ∧ Step ρ H w ρ' H' w' := by
  intro ρ w vs I hr hg hargs hI
  unfold evRound at h
  split at h
  case h_2 => cases h
  rename_i t nt ps as bd hk
  split at h
  case h_2 => cases h
  rename_i t' hps
  split at h
  case h_2 => cases h
  rename_i c1 hc1
  split at h
  case h_2 => cases h
  rename_i t1 nt1 ps1 as1 bd1 hk1
  split at h
  case h_2 => cases h
  rename_i c2 hc2
  split at h
  case h_2 => cases h
  rename_i t2 nt2 ps2 as2 bd2 hk2
  injection h with h
  simp only [Prod.mk.injEq] at h
  obtain ⟨rfl, rfl⟩ := h
  obtain ⟨⟨r, g0, g1, g2, g3, g4, g5, g6, g7⟩, _⟩ := loop_get hr hI hk
  obtain ⟨p1, p2, p3⟩ := setPs_ok hps hargs g7 g6
  refine ⟨r, g0, by rw [← g3] at p1; simpa using p1, fun n => ?_⟩
  have htmps : (r.params.zip vs).foldl (fun tmps (t, a) => tmps.setIfInBounds t a) r.tmps = (ps.zip vs.toList).foldl (fun tmps (t, a) => tmps.setIfInBounds t a) r.tmps := by
    rw [← Array.foldl_toList, Array.toList_zip, g3]
  rw [htmps, g4, g5]
  refine roundIn_of_wpIn (F := W none) trivial ?_
  refine (evCode_ok O0_ok hn hcall hm (ro := some I.B) (inr := true) rfl fuel as _ .normal c1 hc1 ρ w { tmps := _, defers := [] } (Good.start hr hg) p2 p3 rfl _ ?_).1
  rintro a1 w1 ⟨ρ1, s1, e1, e2, e3⟩
  have hI1 := s1.ext _ _ _ hI
  obtain ⟨⟨r1, q0, q1, q2, _⟩, _⟩ := loop_get s1.rel hI1 hk1
  refine ⟨_, run_beginRound q0 q1, ?_⟩
  have b1 := loop_step (busy' := true) (r' := { r1 with state := .busy }) s1.rel hI1 hk1 q0 rfl q2 rfl rfl rfl rfl
  refine (evCode_ok O0_ok hn hcall hm (ro := some I.B) (inr := true) rfl fuel bd _ .normal c2 hc2 ρ1 (w1.putObj I.B (.loop { r1 with state := .busy })) a1 (Good.start b1.rel (hg.mono s1.ext)) e1 e2 e3 _ ?_).1
  rintro a2 w2 ⟨ρ2, s2, _, _, _⟩
  have hI2 := s2.ext _ _ _ hI1
  obtain ⟨⟨r2, y0, _⟩, _⟩ := loop_get s2.rel hI2 hk2
  have b2 := loop_step (busy' := false) (r' := { r2 with state := .ready, pending := none }) s2.rel hI2 hk2 y0 rfl rfl rfl rfl rfl rfl
  refine ⟨_, _, run_endRound none y0, ρ2, _, rfl, by simp [R], ?_⟩
  exact Step.trans hr s1 (Step.trans s1.rel b1 (Step.trans b1.rel s2 b2))

end Go.Ev

/- Deferred functions, those that ask for a panic's value among them; the evaluator's calls, all. -/
namespace Go.Ev
variable {P : Program} {ρ : Rho} {H : AHeap} {w : World}

/-- A deferred function, whose frame below is leaving without a panic. -/
theorem callsDIn_of_wpS {f : FuncId} {fn : Func} {c : Code} {args : Array Value} {R : Ending → World → Prop} (hf : P.funcs[f]? = some fn) (hb : fn.body = some c)
    (h : ∀ (c₀ : Frame) (cs : List Frame), c₀.mode = .returning →
      c.wpS P (fun e a' cs' w' => (e = .normal ∨ e = .ret) ∧ cs' = c₀ :: cs ∧ a'.defers = [] ∧ ∃ v, (results fn a'.tmps).run P w' = .ok v w' ∧ R (.returned v) w')
        { tmps := args ++ Array.replicate (fn.ntmps - args.size) undef, defers := [] } (c₀ :: cs) w) (n : Nat) :
    CallsDIn (W none) n P f args .returning w fun en u w' => u = .returning ∧ R en w' := by
  refine ⟨trivial, fun c₀ cs hu _ => ?_⟩
  let b : Frame := { (default : Frame) with fn := f, kind := .deferred }
  have henter : Frame.enter P f args .deferred = b.at { tmps := args ++ Array.replicate (fn.ntmps - args.size) undef, defers := [] } [.code c] := by
    simp [Frame.enter, Frame.at, hf, hb, b]
  obtain ⟨e, a', cs', w', ⟨he, rfl, hd, v, hr, hR⟩, harr⟩ := h c₀ cs hu b [] rfl rfl
  rw [← henter] at harr
  have hc : ({ c₀ with mode := .returning } : Frame) = c₀ := by rw [← hu]
  have wide : ∀ {m m' : Machine}, Steps P m m' → ComesIn (Machine.fenced P (W none)) P m m' (.returned v) := fun h => (comesIn_wide (e := .returned v)).2 h
  rcases he with rfl | rfl
  · exact ⟨.returned v, .returning, w', _, ⟨rfl, hR⟩, (by rw [hc]; exact wide (Steps.trans harr (.one step_end))), rfl, rfl, rfl, hd, fn, hf, hr⟩
  · obtain ⟨todo, hs⟩ := harr
    exact ⟨.returned v, .returning, w', _, ⟨rfl, hR⟩, (by rw [hc]; exact wide hs), rfl, rfl, rfl, hd, fn, hf, hr⟩

def isRec (o : Oper) : Bool :=
  match o.op, o.guard with
  | .call c, none => (match c.callee, c.args.toList with | .builtin .recover, [] => true | _, _ => false)
  | _, _ => false
theorem isRec_ok {o : Oper} (h : isRec o = true) (e : Operand → Value) : o.guard = none ∧ (execOp e o).run P w = .ok .recover w := by
  unfold isRec at h
  split at h
  · rename_i c ho hg
    split at h
    · rename_i hc ha
      have ha' : c.args = #[] := by apply Array.ext'; simpa using ha
      exact ⟨hg, by simp [execOp, ho, resolve, hc, ha', invoke, builtin]⟩
    · cases h
  · cases h

noncomputable def rdSeq (P : Program) (gl : Nat → Nat) (nt : Nat) (H : AHeap) (rest : List Oper) : T AV → Option (T AV) :=
  List.rec (motive := fun _ => T AV → Option (T AV)) (fun t => some t)
    (fun o _ ih t => match o.guard with
      | none => (match evRd P H (opd gl t) o.op with | some v => (match putA nt t o.dst v with | some t' => ih t' | none => none) | none => none)
      | some _ => none) rest

theorem rdSeq_ok {gl : Nat → Nat} {nt : Nat} {ops : Array Oper} {Q : Exit → Act → List Frame → World → Prop} {cs : List Frame} (hr : HRel ρ H w) (hg : GRel gl ρ) :
    ∀ (rest : List Oper) (k : Nat) (t t' : T AV) (a : Act), ops.toList.drop k = rest → rdSeq P gl nt H rest t = some t' → TRel ρ t a.tmps → nt ≤ a.tmps.size →
      (∀ a' : Act, TRel ρ t' a'.tmps → nt ≤ a'.tmps.size → a'.defers = a.defers → Q .normal a' cs w) → wpOpsS P ops Q (List.range' k rest.length) a cs w
  | [], k, t, t', a, hk, h, ht, hs, hQ => by
    injection h with h; subst h
    exact hQ a ht hs rfl
  | o :: rest, k, t, t', a, hk, h, ht, hs, hQ => by
    replace h : (match o.guard with
      | none => (match evRd P H (opd gl t) o.op with | some v => (match putA nt t o.dst v with | some t1 => rdSeq P gl nt H rest t1 | none => none) | none => none)
      | some _ => none) = some t' := h
    split at h
    case h_2 => cases h
    rename_i hgd
    split at h
    case h_2 => cases h
    rename_i v hv
    split at h
    case h_2 => cases h
    rename_i t1 hput
    have hok : ops[k]? = some o := by
      have : ops.toList[k]? = some o := by
        have h2 := congrArg List.head? hk
        simpa [List.head?_drop] using h2
      simpa using this
    have hk' : ops.toList.drop (k + 1) = rest := by
      have h2 := congrArg List.tail hk
      simpa [List.tail_drop] using h2
    obtain ⟨u, h1, h2⟩ := evRd_ok hr (fun x => opd_ok hg ht x) hv
    obtain ⟨g1, g2, g3⟩ := putA_ok hput ht hs h2
    rw [List.length_cons, List.range'_succ]
    show wpOpsS P ops Q (k :: List.range' (k + 1) rest.length) a cs w
    unfold wpOpsS
    rw [hok]
    simp only
    rw [if_pos (by unfold Region.wanted; rw [hgd]), h1]
    exact rdSeq_ok hr hg rest (k + 1) t1 t' _ hk' h g1 g2 (fun a' q1 q2 q3 => hQ a' q1 q2 (q3.trans g3))

/-- The first region of a deferred function that asks for a panic's value. -/
noncomputable def evRecR (P : Program) (gl : Nat → Nat) (nt : Nat) (H : AHeap) (l : List Oper) (t : T AV) : Option (T AV) :=
  match l with
  | o :: os => bif isRec o then (match putA nt t o.dst .nilIface with | some t' => rdSeq P gl nt H os t' | none => none) else none
  | [] => none

noncomputable def evDfn (P : Program) (gl : Nat → Nat) (fuel : Nat) (ih : CallF) (f : Nat) (args : List AV) (H : AHeap) : Option (AV × AHeap) :=
  match nth P.funcs.toList f with
  | some fn =>
    match fn.body with
    | some c =>
      bif Nat.ble (len args) fn.ntmps then
        match (match c with
          | .seq (.region _ ops false) rest => (match evRecR P gl fn.ntmps H ops.toList (fillArgs args 0 .leaf) with | some t => some (rest, t) | none => some (c, fillArgs args 0 .leaf))
          | c => some (c, fillArgs args 0 .leaf)) with
        | some (c', t) =>
          match evCode P gl O0 ih false fn.ntmps fuel c' ⟨⟨t, H⟩, []⟩ with
          | some (.exit _, _) => none
          | some (_, ⟨st, []⟩) => (match evRes P st fn.results.toList with | some vs => some (oneOf vs, st.H) | none => none)
          | _ => none
        | none => none
      else none
    | none => none
  | none => none

theorem evDfn_ok {gl : Nat → Nat} {fuel : Nat} (hn : NoGo P) (hm : P.follows .mixedOrders = true) {ih : CallF} (hcall : CallOk P gl ih) {f : Nat} {args : List AV} {v : AV} {H' : AHeap} (h : evDfn P gl fuel ih f args H = some (v, H')) :
    (∃ fn, P.funcs[f]? = some fn ∧ fn.body.isSome = true) ∧ ∀ (ρ : Rho) (w : World) (vs : Array Value), HRel ρ H w → GRel gl ρ → RL ρ args vs.toList →
      ∀ n, CallsDIn (W none) n P f vs .returning w fun en u w' => u = .returning ∧ ∃ ρ' v', en = .returned v' ∧ Step ρ H w ρ' H' w' := by
  unfold evDfn at h
  split at h
  case h_2 => cases h
  rename_i fn hfn
  rw [nth_eq] at hfn
  have hfn' : P.funcs[f]? = some fn := by simpa using hfn
  split at h
  case h_2 => cases h
  rename_i c hc
  refine ⟨⟨fn, hfn', by rw [hc]; rfl⟩, ?_⟩
  intro ρ w vs hr hg hargs n
  cases hb : Nat.ble (len args) fn.ntmps with
  | false => rw [hb] at h; cases h
  | true =>
    rw [hb] at h
    simp only [cond_true] at h
    have hle := Nat.le_of_ble_eq_true hb
    rw [len_eq] at hle
    have hsz := RL.length hargs
    have hsize : fn.ntmps ≤ (vs ++ Array.replicate (fn.ntmps - vs.size) undef).size := by
      simp; omega
    split at h
    case h_2 => cases h
    rename_i c' t hct
    split at h
    case h_1 => cases h
    case h_3 => cases h
    rename_i ex st hnex hev
    split at h
    case h_2 => cases h
    rename_i rs hrs
    injection h with h
    simp only [Prod.mk.injEq] at h
    obtain ⟨rfl, rfl⟩ := h
    refine callsDIn_of_wpS (R := fun en w' => ∃ ρ' v', en = .returned v' ∧ Step ρ H w ρ' st.H w') hfn' hc ?_ n
    intro c₀ cs hu
    -- the rest of the body, from wherever its beginning has led
    have rest : ∀ a : Act, TRel ρ t a.tmps → fn.ntmps ≤ a.tmps.size → a.defers = [] →
        c'.wpS P (fun e a' cs' w' => (e = .normal ∨ e = .ret) ∧ cs' = c₀ :: cs ∧ a'.defers = [] ∧ ∃ v, (results fn a'.tmps).run P w' = .ok v w' ∧ ∃ ρ' v', Ending.returned v = .returned v' ∧ Step ρ H w ρ' st.H w') a (c₀ :: cs) w := by
      intro a ht hs hds
      refine wpS_of_wp ?_
      refine (wpIn_wide (n := 0)).1 ?_
      refine (evCode_ok O0_ok hn hcall hm (ro := none) (n := 0) rfl fuel c' _ ex ⟨st, []⟩ hev ρ w a (Good.start hr hg) ht hs hds _ ?_).1
      rintro a' w' ⟨ρ', h1, h2, h3, h4⟩
      obtain ⟨u, h5, h6⟩ := results_ok (P := P) (fn := fn) h1.rel h2 hrs
      have hd : a'.defers = [] := h4
      cases ex with
      | normal => exact ⟨.inl rfl, rfl, hd, u, h5, ρ', u, rfl, h1⟩
      | ret => exact ⟨.inr rfl, rfl, hd, u, h5, ρ', u, rfl, h1⟩
      | exit id => exact absurd rfl (hnex id)
    have plain : some (c, fillArgs args 0 T.leaf) = some (c', t) → c.wpS P (fun e a' cs' w' => (e = .normal ∨ e = .ret) ∧ cs' = c₀ :: cs ∧ a'.defers = [] ∧ ∃ v, (results fn a'.tmps).run P w' = .ok v w' ∧ ∃ ρ' v', Ending.returned v = .returned v' ∧ Step ρ H w ρ' st.H w')
        { tmps := vs ++ Array.replicate (fn.ntmps - vs.size) undef, defers := [] } (c₀ :: cs) w := by
      intro he
      injection he with he
      simp only [Prod.mk.injEq] at he
      obtain ⟨rfl, rfl⟩ := he
      exact rest _ (fillArgs_ok hargs) hsize rfl
    split at hct
    · rename_i id ops rest'
      split at hct
      · rename_i t1 ht1
        injection hct with hct
        simp only [Prod.mk.injEq] at hct
        obtain ⟨rfl, rfl⟩ := hct
        refine wpS_seq (wpS_region ?_)
        unfold evRecR at ht1
        split at ht1
        case h_2 => cases ht1
        rename_i o os hops
        cases hrec : isRec o with
        | false => rw [hrec] at ht1; cases ht1
        | true =>
          rw [hrec] at ht1
          simp only [cond_true] at ht1
          split at ht1
          case h_2 => cases ht1
          rename_i t2 hput
          have hok : ops[0]? = some o := by
            have : ops.toList[0]? = some o := by rw [hops]; rfl
            simpa using this
          have hsz2 : ops.size = os.length + 1 := by rw [← Array.length_toList, hops]; rfl
          obtain ⟨hgd, hrun⟩ := isRec_ok (P := P) (w := w) hrec ({ tmps := vs ++ Array.replicate (fn.ntmps - vs.size) undef, defers := [] } : Act).eval
          rw [List.range_eq_range', hsz2, List.range'_succ]
          show wpOpsS P ops _ (0 :: List.range' 1 os.length) _ _ _
          unfold wpOpsS
          rw [hok]
          simp only
          rw [if_pos (by unfold Region.wanted; rw [hgd]), hrun]
          simp only [recoverD, hu]
          obtain ⟨g1, g2, g3⟩ := putA_ok (ρ := ρ) (u := .nilIface) (a := { tmps := vs ++ Array.replicate (fn.ntmps - vs.size) undef, defers := [] }) hput (fillArgs_ok hargs) hsize (by simp [R])
          refine rdSeq_ok hr hg os 1 t2 t1 _ (by rw [hops]; rfl) ht1 g1 g2 ?_
          intro a' q1 q2 q3
          exact rest a' q1 q2 (q3.trans g3)
      · exact plain hct
    · exact plain hct

/-- What stands for functions without a body, and which function a method of a type is. -/
structure Exts where
  ext : Nat → Option Xk
  inv : TypeId → String → Option Nat

structure ExtsOk (P : Program) (X : Exts) : Prop where
  ext : ∀ f k, X.ext f = some k → ∀ (vs : Array Value) (w : World), (callFunc f vs).run P w = (do pure (.value (← k.sem vs)) : Sem Next).run P w
  inv : ∀ t name f, X.inv t name = some f → ∀ (x : Value) (w : World), (method (P.types.size + Made.depth) t x name).run P w = .ok (f, x) w

noncomputable def evStepF (P : Program) (gl : Nat → Nat) (X : Exts) (fuel : Nat) (ih : CallF) (r : Req) (args : List AV) (H : AHeap) : Option (AV × AHeap) :=
  match r with
  | .fn f => evFn P gl fuel ih f args H
  | .round k => evRound P gl fuel ih k args H
  | .dfn f => evDfn P gl fuel ih f args H
  | .ext f => (match X.ext f with | some k => evX k args H | none => none)
  | .inv t name => (match X.inv t name with | some f => some (.func (.func f) [] [], H) | none => none)

noncomputable def evCall (P : Program) (gl : Nat → Nat) (X : Exts) (fuel : Nat) (depth : Nat) : CallF :=
  Nat.rec (motive := fun _ => CallF) (fun _ _ _ => none) (fun _ ih => evStepF P gl X fuel ih) depth

theorem evCall_ok {gl : Nat → Nat} {X : Exts} {fuel : Nat} (hn : NoGo P) (hm : P.follows .mixedOrders = true) (hX : ExtsOk P X) : ∀ depth, CallOk P gl (evCall P gl X fuel depth)
  | 0 => ⟨fun _ _ _ _ _ h => (by cases h), fun _ _ _ _ _ h => (by cases h), fun _ _ _ _ _ h => (by cases h), fun _ _ _ _ _ h => (by cases h), fun _ _ _ _ _ _ h => (by cases h)⟩
  | depth + 1 => by
    refine ⟨fun _ _ _ _ _ h => evFn_ok hn hm (evCall_ok hn hm hX depth) h, fun _ _ _ _ _ h => evDfn_ok hn hm (evCall_ok hn hm hX depth) h, fun _ _ _ _ _ h => evRound_ok hn hm (evCall_ok hn hm hX depth) h, ?_, ?_⟩
    · intro f args H v H' h ρ w vs hr hl
      replace h : (match X.ext f with | some k => evX k args H | none => none) = some (v, H') := h
      split at h
      case h_2 => cases h
      rename_i k hk
      obtain ⟨u, w', h1, h2, h3⟩ := evX_ok (P := P) hr hl h
      refine ⟨u, w', ρ, ?_, h2, h3⟩
      rw [hX.ext f k hk vs w]
      simp [h1]
    · intro t name args H v H' h
      replace h : (match X.inv t name with | some f => some (AV.func (.func f) [] [], H) | none => none) = some (v, H') := h
      split at h
      case h_2 => cases h
      rename_i f hf
      injection h with h
      simp only [Prod.mk.injEq] at h
      obtain ⟨rfl, rfl⟩ := h
      exact ⟨f, rfl, hX.inv t name f hf⟩

end Go.Ev
