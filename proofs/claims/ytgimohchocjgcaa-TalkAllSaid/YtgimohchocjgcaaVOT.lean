import Derived.Test.YtgimohchocjgcaaVOS
set_option linter.unusedVariables false
set_option linter.unusedSimpArgs false
namespace Go.Proofs.Ytgimohchocjgcaa.V
open Go.ChangeShapes Go.WideShapes Go.ChangeAt Go.RowKit
section
variable {P : Program} {els : List (Nat × El)} {W : World} {H : Type} {enc : TypeId × Value → H}
theorem tflat_index (l : List Tn) (j : Nat) (c : C) (h : (tflat l)[j]? = some c) : ∃ i k x, j = i * 3 + k ∧ k < 3 ∧ l[i]? = some x ∧ x.c[k]? = some c := by
  induction l generalizing j with
  | nil => simp [tflat] at h
  | cons x l ih =>
    simp only [tflat] at h
    have hl : x.c.length = 3 := rfl
    by_cases hj : j < 3
    · rw [List.getElem?_append_left (by omega)] at h
      exact ⟨0, j, x, by simp, hj, rfl, h⟩
    · rw [List.getElem?_append_right (by omega), hl] at h
      obtain ⟨i, k, y, h1, h2, h3, h4⟩ := ih _ h
      exact ⟨i + 1, k, y, by rw [Nat.succ_mul]; omega, h2, by simpa using h3, h4⟩
theorem reads_turns {t e : TypeId} (ht : P.underlying t = some (.slice e)) (hc : P.cellsOf e = 3) (hg : Reads P W enc e [.bool, .u8, .ro .u8]) : Reads P W enc t [.rt] := by
  intro fuel cs x h
  rcases DataW.trod_slice ht h with ⟨rfl, _⟩ | ⟨a, len, cap, elems, rest, n, _, rfl, _, hb, hl, hm, hlen, hel, _, _⟩
  · exact ⟨(([] : List Tn), ()), .rtemp, trivial⟩
  · cases hn : len with
    | zero => exact ⟨(([] : List Tn), ()), .rtemp, trivial⟩
    | succ len' =>
      have hpos := (by decide : 0 < 3)
      have each : ∀ i, i < len → ∃ (vs : List Value) (x : Tn), vs.length = 3 ∧ (∀ k, k < 3 → W.cell? ((a.add (i * 3)).add k) = vs[k]?) ∧ HoldsL W (Okb W) x.c vs := by
        intro i hi
        have h1 := hel i hi
        rw [hc] at h1
        obtain ⟨y, hy⟩ : ∃ y, elems[i]? = some y := ⟨_, List.getElem?_eq_getElem (by omega)⟩
        rw [hy, Option.bind_eq_some_iff] at h1
        obtain ⟨vs, h2, h3⟩ := h1
        obtain ⟨_, h4, h5⟩ := World.cells?_some h2
        obtain ⟨z, hz⟩ := hg _ _ _ h3
        obtain ⟨q, hq⟩ : ∃ q : Tn, q.c = encCs [.bool, .u8, .ro .u8] z := ⟨⟨z.1, z.2.1, z.2.2.1⟩, rfl⟩
        exact ⟨vs, q, h4, h5, by rw [hq]; exact hz⟩
      have hspot : a.spot = none ∧ a.block < W.heap.size := by
        obtain ⟨vs, q, h1, h2, _⟩ := each 0 (by omega)
        obtain ⟨v, hv⟩ : ∃ v, vs[0]? = some v := ⟨_, List.getElem?_eq_getElem (by omega)⟩
        have h3 := h2 0 hpos
        rw [hv] at h3
        exact cell_spot (a := a) (by simpa [Addr.add] using h3)
      obtain ⟨b, off, spot⟩ := a
      obtain ⟨hs, hbk⟩ := hspot
      simp only at hs hbk
      subst hs
      have each' : ∀ i, i < len → ∃ (x : Tn) (vs : List Value), vs.length = 3 ∧ (∀ k, k < 3 → W.cell? ⟨b, off + i * 3 + k, none⟩ = vs[k]?) ∧ HoldsL W (Okb W) x.c vs := by
        intro i hi
        obtain ⟨vs, q, h1, h2, h3⟩ := each i hi
        refine ⟨q, vs, h1, fun k hk => ?_, h3⟩
        have h4 := h2 k hk
        rw [add_at (a := ⟨b, off, none⟩) rfl, add_at rfl] at h4
        exact h4
      have hx : ∃ f : Nat → Tn, ∀ i, i < len → ∃ vs : List Value, vs.length = 3 ∧ (∀ k, k < 3 → W.cell? ⟨b, off + i * 3 + k, none⟩ = vs[k]?) ∧ HoldsL W (Okb W) (f i).c vs := by
        refine ⟨fun i => if h : i < len then Classical.choose (each' i h) else Tn.zero, fun i hi => ?_⟩
        simp only [dif_pos hi]
        exact Classical.choose_spec (each' i hi)
      obtain ⟨f, hf⟩ := hx
      have hlen2 : ((List.range len).map f).length = len := by simp
      have key : ∀ (j : Nat) (c : C), (tflat ((List.range len).map f))[j]? = some c → ∃ v, W.cell? ⟨b, off + j, none⟩ = some v ∧ Holds W (Okb W) c v := by
        intro j c hj
        obtain ⟨i, k, y, h1, h2, h3, h4⟩ := tflat_index _ j c hj
        have hi : i < len := by have := (List.getElem?_eq_some_iff.1 h3).1; simpa using this
        have hy : y = f i := by
          rw [List.getElem?_map, List.getElem?_range hi] at h3
          simpa using h3.symm
        obtain ⟨vs, g1, g2, g3⟩ := hf i hi
        obtain ⟨v, g4, g5⟩ := HoldsL_get g3 k c (by rw [← hy]; exact h4)
        refine ⟨v, ?_, g5⟩
        rw [h1, ← Nat.add_assoc, g2 k h2, g4]
      refine ⟨((List.range len).map f, ()), ?_, trivial⟩
      have := Holds.rt (w := W) (ok := Okb W) (l := (List.range len).map f) (b := b) (off := off) (cap := cap) (fun j => (W.cell? ⟨b, off + j, none⟩).getD undef) (by rw [hlen2]; exact hl) hm hbk (fun j c hj => ?_) (fun j c hj => ?_)
      · rw [hlen2] at this
        rw [← hn]
        exact this
      · obtain ⟨v, h1, _⟩ := key j c hj
        simp only [h1, Option.getD_some]
      · obtain ⟨v, h1, h2⟩ := key j c hj
        simp only [h1, Option.getD_some]
        exact h2
end
theorem opens_turns {P : Program} {els : List (Nat × El)} {t e : TypeId} (k : Nat) (hu : P.underlying t = some (.slice e)) (hs : shp P els k e = some [.bool, .u8, .ro .u8]) (hc : P.cellsOf e = 3) : Opens P K.rt t := fun H enc W base v d p hv ht => by
  obtain ⟨ad, n, c, rfl⟩ := okWide_slice hu hv
  obtain ⟨fuel, hf⟩ := ht
  obtain ⟨y, hy⟩ := reads_turns (W := W) (enc := enc) hu hc (reads_ok els k e _ hs) _ _ _ hf
  exact ⟨y.1, hy.1⟩
theorem oq96 : OpensQ Try.prog (KQ.any K.rt) 96 := opensQ_of (opens_turns (els := pd.els) 7 Try.underlying96 (by kernel_rfl) (by kernel_rfl))
end Go.Proofs.Ytgimohchocjgcaa.V
