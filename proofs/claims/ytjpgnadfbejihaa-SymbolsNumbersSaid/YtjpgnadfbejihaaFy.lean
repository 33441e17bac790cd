/- A slice of steps, as it is read. -/
import Derived.Test.YtjpgnadfbejihaaFs
import Derived.Test.YtjpgnadfbejihaaSp
set_option linter.unusedSimpArgs false
set_option linter.unusedVariables false
namespace Go.Proofs.Ytjpgnadfbejihaa
open Go.ChangeShapes Go.WideShapes Go.ChangeAt Go.RowKit Tk
section
variable {H : Type} {enc : TypeId × Value → H} {W : World}
theorem step_und : ∃ fs, Try.prog.underlying 49 = some (.struct fs) ∧ fs.toList.map (fun f => (f.type, f.offset)) = [(3, 0), (9, 1), (3, 2)] := ⟨_, Try.underlying49, by kernel_rfl⟩
theorem step_cells : Try.prog.cellsOf 49 = 3 := by kernel_rfl
theorem steps_und : Try.prog.underlying 22 = some (.slice 49) := by kernel_rfl
theorem cells_step {fuel : Nat} {base : Nat} {sp : Nat → Bool} {held : Bool} {cs : List Value} {x : DataW H × List MemPlace} (h : DataW.trod enc Try.prog W base sp held fuel 49 cs = some x) :
    ∃ s : Stp, cs = stpC s ∧ s.name.size ≤ maxLen ∧ (stpC s).length = 3 := by
  obtain ⟨fs, hu, hf⟩ := step_und
  obtain ⟨xs, n, _, _, hl, hxl, hat⟩ := DataW.trod_struct hu h
  rw [step_cells] at hl
  have hsz : fs.size = 3 := by have := congrArg List.length hf; simpa using this
  obtain ⟨f0, e0, t0, o0⟩ := field_at hf 0 _ rfl
  obtain ⟨f1, e1, t1, o1⟩ := field_at hf 1 _ rfl
  obtain ⟨f2, e2, t2, o2⟩ := field_at hf 2 _ rfl
  obtain ⟨x0, g0⟩ := some_len hxl (i := 0) (by omega)
  obtain ⟨x1, g1⟩ := some_len hxl (i := 1) (by omega)
  obtain ⟨x2, g2⟩ := some_len hxl (i := 2) (by omega)
  have h0 := (hat 0 f0 e0).trans g0
  have h1 := (hat 1 f1 e1).trans g1
  have h2 := (hat 2 f2 e2).trans g2
  rw [t0, o0] at h0
  rw [t1, o1] at h1
  rw [t2, o2] at h2
  dsimp only at h0 h1 h2
  rw [one_int] at h0 h2
  rw [one_string] at h1
  match cs, hl with
  | [a, b, c], _ =>
    obtain ⟨k, hk, _⟩ := DataW.trod_int Try.underlying3 h0
    obtain ⟨s, hs, _, hsz2⟩ := DataW.trod_string Try.underlying9 h1
    obtain ⟨m, hm, _⟩ := DataW.trod_int Try.underlying3 h2
    simp at hk hs hm
    exact ⟨⟨k, s, m⟩, by rw [hk, hs, hm]; rfl, hsz2, rfl⟩
theorem open_steps {sp : Nat → Bool} {held : Bool} {base : Nat} {r : Reach} {b0 : Nat} {v : Value} {d : DataW H} {ps : List MemPlace} (hval : Value.okWide Try.prog W r b0 22 v) (h : DataW.Trod enc Try.prog W base sp held 22 v d ps) :
    ∃ l, RRow W 3 stpC v l ∧ ∀ s ∈ l, s.name.size ≤ maxLen := by
  obtain ⟨l, h1, h2, _⟩ := open_rrow (f := stpC) (ok := fun s => s.name.size ≤ maxLen) steps_und step_cells (by omega) ⟨0, ⟨#[]⟩, 0⟩ cells_step hval h
  exact ⟨l, h1, h2⟩
end
end Go.Proofs.Ytjpgnadfbejihaa
