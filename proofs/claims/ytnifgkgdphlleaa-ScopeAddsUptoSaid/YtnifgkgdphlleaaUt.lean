/- Small words for tests: texts, numbers, lengths. No program in sight. -/
import Derived.Test.YtnifgkgdphlleaaBa
import Derived.Test.YtnifgkgdphlleaaWo
set_option linter.unusedSimpArgs false
set_option linter.unusedVariables false
namespace Go.Proofs.Ytnifgkgdphlleaa
open Go.RowKit Tk
theorem txt_t {a b : ByteArray} (h : a = b) : (a.toList == b.toList) = true := by simp [h]
theorem txt_inj {a b : ByteArray} (h : a.toList = b.toList) : a = b := by
  rw [bl, bl] at h
  obtain ⟨⟨l⟩⟩ := a
  obtain ⟨⟨m⟩⟩ := b
  simp only at h
  rw [h]
theorem txt_f {a b : ByteArray} (h : ¬ a = b) : (a.toList == b.toList) = false := by
  rw [beq_eq_false_iff_ne]
  exact fun h' => h (txt_inj h')
theorem kd_t {a b : Int} (h : a = b) : (a == b) = true ∧ (a != b) = false := by simp [h]
theorem kd_f {a b : Int} (h : ¬ a = b) : (a == b) = false ∧ (a != b) = true := by simp [h]
theorem len_f {a b : Nat} (h : ¬ a = b) : ((a : Int) == (b : Int)) = false ∧ ((a : Int) != (b : Int)) = true := by
  have : ¬ (a : Int) = b := by omega
  simp [this]
/-- what an old cell holds, and whether it is frozen, in a world that has grown -/
theorem bcell {B : Nat} {W w1 : World} (hb : Below B W w1) : (∀ b o, b < B → w1.cell? ⟨b, o, none⟩ = W.cell? ⟨b, o, none⟩) ∧ (∀ b o, b < B → w1.frozen? ⟨b, o, none⟩ = W.frozen? ⟨b, o, none⟩) :=
  ⟨fun b o h => hb.cell (p := ⟨b, o, none⟩) h, fun b o h => hb.frozen (p := ⟨b, o, none⟩) h⟩
theorem Blk.at_ (w : World) (t : TypeId) (cs : Array Value) (g : Nat) (hg : g = w.heap.size) : Blk (w.alloc (.cells cs t)) g t cs := by subst hg; exact Blk.fresh w t cs
theorem below_after {B : Nat} {w w1 w2 : World} (h2 : Below B w1 w2) (h1 : Below B w w1) : Below B w w2 := h1.trans h2
theorem own_cons {b o : Nat} {s : Option Nat} {n c x : Nat} (h : Value.ownBlock (.slice (some ⟨b, o, s⟩) n c) = some x) : x = b := by
  simp only [Value.ownBlock, Option.some.injEq] at h; exact h.symm
/-- none before k -/
theorem none_snoc {α : Type} {p : α → Prop} {l : List α} {k : Nat} (hall : ∀ j (_ : j < k) (h1 : j < l.length), ¬ p l[j]) (h : k < l.length) (hk : ¬ p l[k]) : ∀ j (_ : j < k + 1) (h1 : j < l.length), ¬ p l[j] := by
  intro j hj h1
  by_cases e : j = k
  · subst e; exact hk
  · exact hall j (by omega) h1
end Go.Proofs.Ytnifgkgdphlleaa
