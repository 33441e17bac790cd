/- The times of permitted events: one more event, their order. -/
import Derived.Test.YtokadblncmjanaaRb2
set_option linter.unusedSimpArgs false
set_option linter.unusedVariables false
namespace Go.Proofs.Ytokadblncmjanaa
open Go.RowKit Tk
def stB (k : ByteArray) (R : RL) (l : List Int) : RL := l.foldl (fun R n => (R.allow k n).1) R
theorem times_app (k : ByteArray) : ∀ (l : List Int) (R : RL) (n : Int), timesB k R (l ++ [n]) = timesB k R l ++ if ((stB k R l).allow k n).2 = true then [((stB k R l).allow k n).1.time] else []
  | [], R, n => rfl
  | x :: l, R, n => by
    have ih := times_app k l (R.allow k x).1 n
    have e : stB k R (x :: l) = stB k (R.allow k x).1 l := rfl
    rw [e]
    simp only [List.cons_append, timesB]
    split
    · rw [ih, List.cons_append]
    · exact ih
theorem times_ge {k : ByteArray} : ∀ {l : List Int} {R : RL}, OneKey R k → R.time ≤ big → ∀ x ∈ timesB k R l, R.time ≤ x ∧ x ≤ big
  | [], R, _, _, x, hx => by simp [timesB] at hx
  | n :: l, R, h, hb, x, hx => by
    have hs := one_allow h n
    have hle : R.clockAt n ≤ big := by unfold RL.clockAt; omega
    have hge := hs.ge
    have ih := times_ge (l := l) hs.one (by rw [hs.time]; exact hle)
    rw [hs.time] at ih
    unfold timesB at hx
    split at hx
    · rcases List.mem_cons.1 hx with rfl | hx
      · rw [hs.time]; exact ⟨hge, hle⟩
      · have := ih x hx; omega
    · have := ih x hx; omega
theorem times_asc {k : ByteArray} : ∀ {l : List Int} {R : RL}, OneKey R k → R.time ≤ big → (timesB k R l).Pairwise (· ≤ ·)
  | [], R, _, _ => List.Pairwise.nil
  | n :: l, R, h, hb => by
    have hs := one_allow h n
    have hle : R.clockAt n ≤ big := by unfold RL.clockAt; omega
    have ih := times_asc (l := l) hs.one (by rw [hs.time]; exact hle)
    unfold timesB
    split
    · exact List.pairwise_cons.2 ⟨fun x hx => (times_ge hs.one (by rw [hs.time]; exact hle) x hx).1, ih⟩
    · exact ih
theorem asc_at {l : List Int} (h : l.Pairwise (· ≤ ·)) {i m : Nat} (him : i ≤ m) (hm : m < l.length) : l[i] ≤ l[m] := by
  rcases Nat.lt_or_eq_of_le him with h1 | h1
  · exact List.pairwise_iff_getElem.1 h i m (by omega) hm h1
  · subst h1; exact Int.le_refl _
theorem st_one {k : ByteArray} : ∀ {l : List Int} {R : RL}, OneKey R k → OneKey (stB k R l) k
  | [], R, h => h
  | n :: l, R, h => st_one (l := l) (one_allow h n).one
theorem first_one {bu it : Int} (hp : Par bu it) (k : ByteArray) : OneKey ⟨bu, it, 1, 0, [], 0, 0⟩ k :=
  ⟨hp, rfl, .inl rfl, Int.le_refl _, fun t ht => ⟨0, by have := hp.b0; unfold curB; dsimp only; omega, Int.le_refl _, ht, Int.le_refl _, Int.le_refl _, Int.le_refl _⟩⟩
theorem times_len (k : ByteArray) : ∀ (l : List Int) (R : RL), (timesB k R l).length ≤ l.length
  | [], _ => by simp [timesB]
  | n :: l, R => by
    have := times_len k l (R.allow k n).1
    unfold timesB
    split <;> simp <;> omega
end Go.Proofs.Ytokadblncmjanaa
