/- An argument that is a slice of bytes, opened. -/
import Derived.Test.YtffflmghfcgkfaaBk
import Derived.Test.YtffflmghfcgkfaaFr
set_option linter.unusedSimpArgs false
set_option linter.unusedVariables false
namespace Go.Proofs.Ytffflmghfcgkfaa
open Go.ChangeShapes Go.WideShapes Go.ChangeAt Go.RowKit Tk
theorem u8s_und : Try.prog.underlying 43 = some (.slice 5) := by kernel_rfl
theorem u8_cells : Try.prog.cellsOf 5 = 1 := by kernel_rfl
theorem u8_wf {z : Int} (h : (Lit.int .u8 z).wf = true) : 0 ≤ z ∧ z < 256 := by
  have : 0 ≤ z ∧ z ≤ 255 := by simpa [Lit.wf, IntKind.min, IntKind.max, IntKind.signed, IntKind.bits] using h
  omega
theorem open_u8s {H : Type} {enc : TypeId × Value → H} {W : World} {sp : Nat → Bool} {held : Bool} {base : Nat} {r : Reach} {b0 : Nat} {v : Value} {d : DataW H} {ps : List MemPlace} (hval : Value.okWide Try.prog W r b0 43 v) (h : DataW.Trod enc Try.prog W base sp held 43 v d ps) : ∃ gs, U8s W v gs := by
  obtain ⟨ao, len, cap, rfl⟩ := okWide_slice u8s_und hval
  obtain ⟨fuel, hf⟩ := h
  rcases Go.ChangeShapes.open_ints u8s_und Try.underlying5 u8_cells hf with ⟨hc, _⟩ | ⟨a, len', cap', zs, hc, _, hle, hm, hlen, _, hat, hwf⟩
  · simp [Value.cells] at hc
    obtain ⟨rfl, rfl, rfl⟩ := hc
    exact ⟨[], none, 0, rfl, Nat.le_refl _, by decide, by simp, .inl rfl⟩
  · simp [Value.cells] at hc
    obtain ⟨rfl, rfl, rfl⟩ := hc
    have hml : len ≤ zs.length := by rw [hlen]; split <;> omega
    have hz : ∀ i, i < len → 0 ≤ zs.getD i 0 ∧ zs.getD i 0 < 256 := fun i hi => by
      have : zs.getD i 0 = zs[i]'(by omega) := by rw [List.getD_eq_getElem?_getD, List.getElem?_eq_getElem (by omega)]; rfl
      rw [this]
      exact u8_wf (hwf _ (List.getElem_mem (by omega)))
    refine ⟨(List.range len).map fun i => (zs.getD i 0).toNat, some a, cap, by simp, by simpa using hle, hm, ?_, ?_⟩
    · intro g hg
      obtain ⟨i, hi, rfl⟩ := List.mem_map.1 hg
      have := hz i (by simpa using hi)
      omega
    · by_cases h0 : len = 0
      · left; simpa using h0
      · right
        obtain ⟨b, o, sp'⟩ := a
        have hc0 := hat 0 (by omega)
        have e : (⟨b, o, sp'⟩ : Addr).add 0 = ⟨b, o, sp'⟩ := rfl
        rw [e] at hc0
        have hs : sp' = none := by
          cases sp' with
          | none => rfl
          | some z =>
            exfalso
            unfold World.cell? at hc0
            split at hc0
            · simp at hc0
            · cases hc0
        subst hs
        refine ⟨b, o, rfl, ?_, fun i hi => ?_⟩
        · rcases Nat.lt_or_ge b W.heap.size with hlt | hge
          · exact hlt
          · exfalso
            unfold World.cell? at hc0
            rw [Array.getElem?_eq_none hge] at hc0
            cases hc0
        · have hi' : i < len := by simpa using hi
          have := hat i (by omega)
          have e2 : (⟨b, o, none⟩ : Addr).add i = ⟨b, o + i, none⟩ := by unfold Addr.add; split <;> simp_all
          rw [e2] at this
          rw [this]
          have hzi := hz i hi'
          simp only [List.getElem_map, List.getElem_range]
          congr 2
          omega
end Go.Proofs.Ytffflmghfcgkfaa
