/- Parts of rows; a list with one more bucket, in three parts. -/
import Derived.Test.YtokadblncmjanaaRh
set_option linter.unusedSimpArgs false
set_option linter.unusedVariables false
namespace Go.Proofs.Ytokadblncmjanaa
open Go.RowKit Tk
section
variable {α : Type} {f : α → List Value} {k : Nat} {w : World} {xs : List α}
theorem RRow.take {ao : Option Addr} {n c : Nat} (h : RRow w k f (.slice ao n c) xs) {j : Nat} (hj : j ≤ xs.length) : RRow w k f (.slice ao j c) (xs.take j) := by
  obtain ⟨ao', cap, e, h1, h2, h3⟩ := h
  injection e with e1 e2 e3
  subst e1 e3
  have hl : (xs.take j).length = j := by rw [List.length_take]; omega
  refine ⟨ao, c, by rw [hl], by omega, h2, ?_⟩
  by_cases h0 : j = 0
  · exact .inl (by omega)
  rcases h3 with h3 | ⟨g, o, e, hg, hc⟩
  · omega
  · refine .inr ⟨g, o, e, hg, fun i hi i2 hi2 => ?_⟩
    rw [hc i (by omega) i2 hi2, List.getElem_take]
theorem RRow.drop {g o n c : Nat} (h : RRow w k f (.slice (some ⟨g, o, none⟩) n c) xs) {j : Nat} (hj : j ≤ xs.length) : RRow w k f (.slice (some ⟨g, o + j * k, none⟩) (n - j) (c - j)) (xs.drop j) := by
  obtain ⟨ao', cap, e, h1, h2, h3⟩ := h
  injection e with e1 e2 e3
  subst e1 e2 e3
  have hl : (xs.drop j).length = xs.length - j := List.length_drop
  refine ⟨_, _, by rw [hl], by omega, by omega, ?_⟩
  by_cases h0 : xs.length - j = 0
  · exact .inl (by omega)
  rcases h3 with h3 | ⟨g', o', e, hg, hc⟩
  · omega
  · injection e with e
    injection e with e1 e2 e3
    subst e1 e2
    refine .inr ⟨g, o + j * k, rfl, hg, fun i hi i2 hi2 => ?_⟩
    have := hc (j + i) (by omega) i2 hi2
    rw [Nat.add_mul] at this
    rw [List.getElem_drop, ← this]
    congr 2; omega
end
/-- how many buckets lie before a key -/
def posB (k : ByteArray) : List (ByteArray × Bk) → Nat
  | [] => 0
  | p :: l => if key p.1 < key k then posB k l + 1 else 0
theorem pos_le (k : ByteArray) : ∀ l : List (ByteArray × Bk), posB k l ≤ l.length
  | [] => Nat.le_refl _
  | p :: l => by unfold posB; have := pos_le k l; split <;> simp <;> omega
theorem ins_parts (k : ByteArray) (b : Bk) : ∀ l : List (ByteArray × Bk), insB k b l = l.take (posB k l) ++ [(k, b)] ++ l.drop (posB k l)
  | [] => rfl
  | p :: l => by
    unfold insB posB
    split
    · simp [ins_parts k b l]
    · simp
theorem pos_at {k : ByteArray} : ∀ {l : List (ByteArray × Bk)} {j : Nat}, j ≤ l.length → (∀ x (_ : x < j) (h : x < l.length), key l[x].1 < key k) → (∀ h : j < l.length, ¬ key l[j].1 < key k) → posB k l = j
  | [], j, hj, _, _ => by simp at hj; subst hj; rfl
  | p :: l, 0, _, _, h2 => by unfold posB; exact if_neg (h2 (by simp))
  | p :: l, j + 1, hj, h1, h2 => by
    unfold posB
    have h0 : key p.1 < key k := h1 0 (by omega) (by simp)
    rw [if_pos h0, pos_at (by simpa using hj) (fun x hx h => h1 (x + 1) (by omega) (by simpa using h)) (fun h => h2 (by simpa using h))]
end Go.Proofs.Ytokadblncmjanaa
