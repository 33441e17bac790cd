/- Rows of records, as they lie in memory: those that the call owns, those that it reads. No program in sight. -/
import Derived.Test.YtnifgkgdphlleaaWo
import Derived.Maps.AppendAt
set_option linter.unusedSimpArgs false
set_option linter.unusedVariables false
namespace Go.Proofs.Ytnifgkgdphlleaa
open Go.RowKit
section
variable {α : Type} {f : α → List Value} {k : Nat}
theorem flat_len (hf : ∀ x, (f x).length = k) : ∀ xs : List α, (xs.flatMap f).length = xs.length * k
  | [] => by simp
  | x :: xs => by rw [List.flatMap_cons, List.length_append, hf, flat_len hf xs, List.length_cons, Nat.succ_mul]; omega
theorem flat_get (hf : ∀ x, (f x).length = k) : ∀ (xs : List α) (i j : Nat) (hi : i < xs.length), j < k → (xs.flatMap f)[i * k + j]? = (f xs[i])[j]?
  | x :: xs, 0, j, _, hj => by rw [List.flatMap_cons, Nat.zero_mul, Nat.zero_add, List.getElem?_append_left (by rw [hf]; exact hj)]; rfl
  | x :: xs, i + 1, j, hi, hj => by
    rw [List.flatMap_cons, List.getElem?_append_right (by rw [hf, Nat.succ_mul]; omega), hf]
    have e : (i + 1) * k + j - k = i * k + j := by rw [Nat.succ_mul]; omega
    rw [e, flat_get hf xs i j (by simpa using hi) hj]
    rfl
/-- a slice that owns its row of records -/
def ORow (w : World) (t : TypeId) (k : Nat) (f : α → List Value) (v : Value) (xs : List α) : Prop := w.ownsRow 0 t k v xs.length (xs.flatMap f)
/-- a slice that reads as a list of records -/
def RRow (w : World) (k : Nat) (f : α → List Value) (v : Value) (xs : List α) : Prop :=
  ∃ ao cap, v = .slice ao xs.length cap ∧ xs.length ≤ cap ∧ cap ≤ maxLen ∧ (xs.length = 0 ∨ ∃ g o, ao = some ⟨g, o, none⟩ ∧ g < w.heap.size ∧ ∀ i (h : i < xs.length) j, j < k → w.cell? ⟨g, o + i * k + j, none⟩ = (f xs[i])[j]?)
variable {w w1 : World} {t : TypeId} {v : Value} {xs : List α}
theorem ORow.nil (w : World) (t : TypeId) (k : Nat) (f : α → List Value) : ORow w t k f (.slice none 0 0) [] := World.ownsRow_nil w 0 t k
theorem ORow.len (h : ORow w t k f v xs) : ∃ ao cap, v = .slice ao xs.length cap ∧ xs.length ≤ cap ∧ cap ≤ maxLen := by
  rcases h.2 with ⟨e, hn⟩ | ⟨g, cap, cur, e, hb, hgg, h1, h2, h3⟩
  · exact ⟨none, 0, by rw [e, hn], by omega, by decide⟩
  · exact ⟨_, cap, e, h1, h2⟩
theorem ORow.lt (h : ORow w t k f v xs) {x : Nat} (hx : v.ownBlock = some x) : x < w.heap.size := (World.ownsRow.lt h x hx).2
theorem ORow.at (hf : ∀ x, (f x).length = k) (h : ORow w t k f v xs) (h0 : 0 < xs.length) : ∃ g cap, v = .slice (some ⟨g, 0, none⟩) xs.length cap ∧ xs.length ≤ cap ∧ cap ≤ maxLen ∧ g < w.heap.size ∧ ∀ i (hi : i < xs.length) j, j < k → w.cell? ⟨g, i * k + j, none⟩ = (f xs[i])[j]? := by
  rcases h.2 with ⟨e, hn⟩ | ⟨g, cap, cur, e, hb, hgg, h1, h2, h3⟩
  · omega
  · subst e
    refine ⟨g, cap, rfl, h1, h2, Blk.lt hgg, fun i hi j hj => ?_⟩
    have hlt : i * k + j < xs.length * k := by
      have : (i + 1) * k ≤ xs.length * k := Nat.mul_le_mul_right k hi
      rw [Nat.succ_mul] at this; omega
    rw [World.ownsRow.cellAt (w := w) (base := 0) (e := t) (size := k) (g := g) (n := xs.length) (cap := cap) (xs := xs.flatMap f) h _ hlt]
    exact flat_get hf xs i j hi hj
theorem ORow.kept (h : ORow w t k f v xs) (hk : ∀ x, v.ownBlock = some x → w1.heap[x]? = w.heap[x]?) : ORow w1 t k f v xs := by
  refine ⟨h.1, ?_⟩
  rcases h.2 with hn | ⟨g, cap, cur, rfl, hb, hgg, rest⟩
  · exact .inl hn
  · exact .inr ⟨g, cap, cur, rfl, hb, (hk g rfl).trans hgg, rest⟩
theorem ORow.low (h : ORow w t k f v xs) (hb : Below w.heap.size w w1) : ORow w1 t k f v xs := h.kept fun x hx => hb.block x (h.lt hx)
theorem ORow.reads (hf : ∀ x, (f x).length = k) (h : ORow w t k f v xs) : RRow w k f v xs := by
  obtain ⟨ao, cap, e, h1, h2⟩ := h.len
  by_cases h0 : xs.length = 0
  · exact ⟨ao, cap, e, h1, h2, .inl h0⟩
  · obtain ⟨g, cap', e', _, _, hg, hc⟩ := h.at hf (by omega)
    rw [e] at e'
    injection e' with e1 e2 e3
    exact ⟨ao, cap, e, h1, h2, .inr ⟨g, 0, e1, hg, fun i hi j hj => by rw [Nat.zero_add]; exact hc i hi j hj⟩⟩
theorem RRow.nil (w : World) (k : Nat) (f : α → List Value) : RRow w k f (.slice none 0 0) [] := ⟨none, 0, rfl, Nat.le_refl _, by decide, .inl rfl⟩
theorem RRow.len (h : RRow w k f v xs) : ∃ ao cap, v = .slice ao xs.length cap ∧ xs.length ≤ cap ∧ cap ≤ maxLen := by
  obtain ⟨ao, cap, e, h1, h2, _⟩ := h; exact ⟨ao, cap, e, h1, h2⟩
theorem RRow.at (h : RRow w k f v xs) (h0 : 0 < xs.length) : ∃ g o cap, v = .slice (some ⟨g, o, none⟩) xs.length cap ∧ xs.length ≤ cap ∧ cap ≤ maxLen ∧ g < w.heap.size ∧ ∀ i (hi : i < xs.length) j, j < k → w.cell? ⟨g, o + i * k + j, none⟩ = (f xs[i])[j]? := by
  obtain ⟨ao, cap, e, h1, h2, hn | ⟨g, o, rfl, hg, hc⟩⟩ := h
  · omega
  · exact ⟨g, o, cap, e, h1, h2, hg, hc⟩
theorem RRow.kept (h : RRow w k f v xs) (hs : w.heap.size ≤ w1.heap.size) (hk : ∀ x, v.ownBlock = some x → x < w.heap.size → w1.heap[x]? = w.heap[x]?) : RRow w1 k f v xs := by
  obtain ⟨ao, cap, e, h1, h2, h3⟩ := h
  refine ⟨ao, cap, e, h1, h2, h3.imp id ?_⟩
  rintro ⟨g, o, rfl, hg, hc⟩
  exact ⟨g, o, rfl, Nat.lt_of_lt_of_le hg hs, fun i hi j hj => (World.cell?_of_block (w := w) (hk g (by rw [e]; rfl) hg)).trans (hc i hi j hj)⟩
theorem RRow.low (h : RRow w k f v xs) (hb : Below w.heap.size w w1) : RRow w1 k f v xs := h.kept hb.size fun x _ hx => hb.block x hx
theorem RRow.blk {g : Nat} {cs : Array Value} (hf : ∀ x, (f x).length = k) (h : Blk w g t cs) (hc : cs.toList = xs.flatMap f) (hl : xs.length ≤ maxLen) : RRow w k f (.slice (some ⟨g, 0, none⟩) xs.length xs.length) xs :=
  ⟨_, _, rfl, Nat.le_refl _, hl, .inr ⟨g, 0, rfl, h.lt, fun i hi j hj => by rw [h.cell, Nat.zero_add, ← Array.getElem?_toList, hc]; exact flat_get hf xs i j hi hj⟩⟩
theorem ORow.blk {g : Nat} {cs : Array Value} (hf : ∀ x, (f x).length = k) (h : Blk w g t cs) (hc : cs.toList = xs.flatMap f) (hl : xs.length ≤ maxLen) : ORow w t k f (.slice (some ⟨g, 0, none⟩) xs.length xs.length) xs := by
  have hsz : cs.size = xs.length * k := by rw [← flat_len hf xs, ← hc, Array.length_toList]
  exact ⟨flat_len hf xs, .inr ⟨g, xs.length, cs, rfl, Nat.zero_le _, h, Nat.le_refl _, hl, hsz, by rw [← hc, List.take_of_length_le (by rw [Array.length_toList, hsz]; exact Nat.le_refl _)]⟩⟩
end
end Go.Proofs.Ytnifgkgdphlleaa
