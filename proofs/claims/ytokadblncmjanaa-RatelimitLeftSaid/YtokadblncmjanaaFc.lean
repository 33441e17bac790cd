/- A case with two lists of events, as it is read. -/
import Derived.Test.YtokadblncmjanaaFs
import Derived.Test.YtokadblncmjanaaRo2
set_option linter.unusedSimpArgs false
set_option linter.unusedVariables false
namespace Go.Proofs.Ytokadblncmjanaa
open Go.ChangeShapes Go.WideShapes Go.ChangeAt Go.RowKit Tk
section
variable {H : Type} {enc : TypeId × Value → H} {W : World}
/-- a slice in a cell, read as a list of records -/
theorem rrow_cell {P : Program} {α : Type} {f : α → List Value} {ok : α → Prop} {k : Nat} {T E : TypeId} (und : P.underlying T = some (.slice E)) (hE : P.cellsOf E = k) (hk : 0 < k) (z : α)
    (cells : ∀ {fuel : Nat} {base : Nat} {sp : Nat → Bool} {held : Bool} {cs : List Value} {x : DataW H × List MemPlace}, DataW.trod enc P W base sp held fuel E cs = some x → ∃ a : α, cs = f a ∧ ok a ∧ (f a).length = k)
    {sp : Nat → Bool} {held : Bool} {base fuel : Nat} {v : Value} {x : DataW H × List MemPlace} (hf : DataW.trod enc P W base sp held fuel T [v] = some x) : ∃ xs, RRow W k f v xs ∧ (∀ x ∈ xs, ok x) := by
  rcases Go.Deep.open_slice und hf with ⟨hc, _⟩ | ⟨a, len, cap, m, n, D, Pl, hc, _, hle, hm, hmm, _, hat⟩
  · simp at hc
    subst hc
    exact ⟨[], RRow.nil _ _ _, by simp⟩
  · simp at hc
    subst hc
    have hml : len ≤ m := by rw [hmm]; split <;> omega
    have each : ∀ i, i < len → ∃ x : α, ok x ∧ (f x).length = k ∧ ∀ j, j < k → W.cell? ((a.add (i * k)).add j) = (f x)[j]? := by
      intro i hi
      obtain ⟨cs', hcs, ht⟩ := hat i (by omega)
      obtain ⟨x, rfl, hox, hlx⟩ := cells ht
      rw [hE] at hcs
      obtain ⟨_, _, hcell⟩ := World.cells?_some hcs
      exact ⟨x, hox, hlx, fun j hj => hcell j (by omega)⟩
    have : ∃ g : Nat → α, ∀ i, i < len → ok (g i) ∧ (f (g i)).length = k ∧ ∀ j, j < k → W.cell? ((a.add (i * k)).add j) = (f (g i))[j]? :=
      ⟨fun i => if h : i < len then Classical.choose (each i h) else z, fun i hi => by
        have := Classical.choose_spec (each i hi)
        simpa only [dif_pos hi] using this⟩
    obtain ⟨g, hg⟩ := this
    obtain ⟨b, o, sp'⟩ := a
    have hnone : 0 < len → sp' = none := fun h0 => by
      have h1 := (hg 0 h0).2.2 0 hk
      cases sp' with
      | none => rfl
      | some q =>
        exfalso
        rw [Nat.zero_mul] at h1
        have e : ((⟨b, o, some q⟩ : Addr).add 0).add 0 = ⟨b, o, some q⟩ := rfl
        rw [e] at h1
        have h2 : (f (g 0))[0]? = some ((f (g 0))[0]'(by have := (hg 0 h0).2.1; omega)) := List.getElem?_eq_getElem _
        rw [h2] at h1
        unfold World.cell? at h1
        split at h1
        · simp at h1
        · cases h1
    have hlt : 0 < len → b < W.heap.size := fun h0 => by
      have hs := hnone h0
      subst hs
      have h1 := (hg 0 h0).2.2 0 hk
      rw [Nat.zero_mul] at h1
      have e : ((⟨b, o, none⟩ : Addr).add 0).add 0 = ⟨b, o, none⟩ := rfl
      rw [e] at h1
      have h2 : (f (g 0))[0]? = some ((f (g 0))[0]'(by have := (hg 0 h0).2.1; omega)) := List.getElem?_eq_getElem _
      rw [h2] at h1
      exact World.block_lt_of_cell? W _ h1
    refine ⟨(List.range len).map g, ⟨some ⟨b, o, sp'⟩, cap, by simp, by simpa using hle, hm, ?_⟩, fun x hx => ?_⟩
    · by_cases h0 : len = 0
      · left; simpa using h0
      · right
        have hs := hnone (by omega)
        subst hs
        refine ⟨b, o, rfl, hlt (by omega), fun i hi j hj => ?_⟩
        have hi' : i < len := by simpa using hi
        have := (hg i hi').2.2 j hj
        rw [add_add] at this
        simp only [List.getElem_map, List.getElem_range]
        exact this
    · obtain ⟨i, hi, rfl⟩ := List.mem_map.1 hx
      exact (hg i (List.mem_range.1 hi)).1
theorem ev_und : ∃ fs, Try.prog.underlying 40 = some (.struct fs) ∧ fs.toList.map (fun f => (f.type, f.offset)) = [(9, 0), (3, 1)] := ⟨_, Try.underlying40, by kernel_rfl⟩
theorem ev_cells : Try.prog.cellsOf 40 = 2 := by kernel_rfl
theorem evs_und : Try.prog.underlying 28 = some (.slice 40) := by kernel_rfl
theorem evs_cells : Try.prog.cellsOf 28 = 1 := by kernel_rfl
theorem case_und : ∃ fs, Try.prog.underlying 30 = some (.struct fs) ∧ fs.toList.map (fun f => (f.type, f.offset)) = [(3, 0), (3, 1), (3, 2), (28, 3), (28, 4)] := ⟨_, Try.underlying30, by kernel_rfl⟩
theorem case_cells : Try.prog.cellsOf 30 = 5 := by kernel_rfl
theorem cells_ev {fuel : Nat} {base : Nat} {sp : Nat → Bool} {held : Bool} {cs : List Value} {x : DataW H × List MemPlace} (h : DataW.trod enc Try.prog W base sp held fuel 40 cs = some x) :
    ∃ s : ByteArray × Int, cs = evC s ∧ True ∧ (evC s).length = 2 := by
  obtain ⟨fs, hu, hf⟩ := ev_und
  obtain ⟨xs, n, _, _, hl, hxl, hat⟩ := DataW.trod_struct hu h
  rw [ev_cells] at hl
  have hsz : fs.size = 2 := by have := congrArg List.length hf; simpa using this
  obtain ⟨f0, e0, t0, o0⟩ := field_at hf 0 _ rfl
  obtain ⟨f1, e1, t1, o1⟩ := field_at hf 1 _ rfl
  obtain ⟨x0, g0⟩ := some_len hxl (i := 0) (by omega)
  obtain ⟨x1, g1⟩ := some_len hxl (i := 1) (by omega)
  have h0 := (hat 0 f0 e0).trans g0
  have h1 := (hat 1 f1 e1).trans g1
  rw [t0, o0] at h0
  rw [t1, o1] at h1
  dsimp only at h0 h1
  rw [one_string] at h0
  rw [one_int] at h1
  match cs, hl with
  | [a, b], _ =>
    obtain ⟨s, hs, _, hsz2⟩ := DataW.trod_string Try.underlying9 h0
    obtain ⟨m, hm, _⟩ := DataW.trod_int Try.underlying3 h1
    simp at hs hm
    exact ⟨(s, m), by rw [hs, hm]; rfl, trivial, rfl⟩
theorem open_case {sp : Nat → Bool} {held : Bool} {base : Nat} {r : Reach} {b0 : Nat} {v : Value} {d : DataW H} {ps : List MemPlace} (hval : Value.okWide Try.prog W r b0 30 v) (h : DataW.Trod enc Try.prog W base sp held 30 v d ps) :
    ∃ bu it ks u1 u2 e1 e2, v = .agg #[.int .i64 bu, .int .i64 it, .int .i64 ks, u1, u2] ∧ Evs W u1 e1 ∧ Evs W u2 e2 := by
  obtain ⟨fs, hu, hf⟩ := case_und
  obtain ⟨fuel, h⟩ := h
  obtain ⟨xs, n, _, _, hl, hxl, hat⟩ := DataW.trod_struct hu h
  rw [case_cells] at hl
  have hsz : fs.size = 5 := by have := congrArg List.length hf; simpa using this
  obtain ⟨f0, e0, t0, o0⟩ := field_at hf 0 _ rfl
  obtain ⟨x0, g0⟩ := some_len hxl (i := 0) (by omega)
  have h0 := (hat 0 f0 e0).trans g0
  rw [t0, o0] at h0
  obtain ⟨f1, e1, t1, o1⟩ := field_at hf 1 _ rfl
  obtain ⟨x1, g1⟩ := some_len hxl (i := 1) (by omega)
  have h1 := (hat 1 f1 e1).trans g1
  rw [t1, o1] at h1
  obtain ⟨f2, e2, t2, o2⟩ := field_at hf 2 _ rfl
  obtain ⟨x2, g2⟩ := some_len hxl (i := 2) (by omega)
  have h2 := (hat 2 f2 e2).trans g2
  rw [t2, o2] at h2
  obtain ⟨f3, e3, t3, o3⟩ := field_at hf 3 _ rfl
  obtain ⟨x3, g3⟩ := some_len hxl (i := 3) (by omega)
  have h3 := (hat 3 f3 e3).trans g3
  rw [t3, o3] at h3
  obtain ⟨f4, e4, t4, o4⟩ := field_at hf 4 _ rfl
  obtain ⟨x4, g4⟩ := some_len hxl (i := 4) (by omega)
  have h4 := (hat 4 f4 e4).trans g4
  rw [t4, o4] at h4
  dsimp only at h0 h1 h2 h3 h4
  rw [one_int] at h0 h1 h2
  rw [evs_cells] at h3 h4
  obtain ⟨cs, rfl, _⟩ := okWide_struct hu hval
  simp only [Value.cells] at h0 h1 h2 h3 h4 hl
  obtain ⟨l⟩ := cs
  simp only at h0 h1 h2 h3 h4 hl
  match l, hl with
  | [a, b, c, u1, u2], _ =>
    obtain ⟨k, hk, _⟩ := DataW.trod_int Try.underlying3 h0
    obtain ⟨k1, hk1, _⟩ := DataW.trod_int Try.underlying3 h1
    obtain ⟨k2, hk2, _⟩ := DataW.trod_int Try.underlying3 h2
    simp at hk hk1 hk2
    obtain ⟨l1, r1, _⟩ := rrow_cell (f := evC) (ok := fun _ => True) evs_und ev_cells (by omega) (⟨#[]⟩, 0) cells_ev (show DataW.trod enc Try.prog W base sp held n 28 [u1] = some _ from h3)
    obtain ⟨l2, r2, _⟩ := rrow_cell (f := evC) (ok := fun _ => True) evs_und ev_cells (by omega) (⟨#[]⟩, 0) cells_ev (show DataW.trod enc Try.prog W base sp held n 28 [u2] = some _ from h4)
    exact ⟨k, k1, k2, u1, u2, l1, l2, by rw [hk, hk1, hk2], r1, r2⟩
end
end Go.Proofs.Ytokadblncmjanaa
