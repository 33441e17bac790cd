/- What Scan returns, as a plain function; the bounds of what is found. -/
import Derived.Test.YtffflmghfcgkfaaTi
set_option linter.unusedSimpArgs false
set_option linter.unusedVariables false
namespace Go.Proofs.Ytffflmghfcgkfaa
open Go.RowKit Tk

structure Tok where
  kind : Int
  text : ByteArray
  pos : Int × Int
def Tok.cells (t : Tok) : List Value := [.int .i64 t.kind, .string t.text, .int .i64 t.pos.1, .int .i64 t.pos.2]
def cellsT (ts : List Tok) : List Value := ts.flatMap Tok.cells
theorem cellsT_nil : cellsT [] = [] := rfl
theorem cellsT_snoc (ts : List Tok) (t : Tok) : cellsT (ts ++ [t]) = cellsT ts ++ t.cells := by simp [cellsT]
theorem cellsT_len (ts : List Tok) : (cellsT ts).length = ts.length * 4 := by
  induction ts with
  | nil => rfl
  | cons t ts ih => simp only [cellsT, List.flatMap_cons, List.length_append, List.length_cons] at *; rw [ih]; simp [Tok.cells]; omega
inductive SR where
  | err (c : Int) (p : Int × Int)
  | ok (ts : List Tok)
def SR.add (acc : List Tok) : SR → SR
  | .err c p => .err c p
  | .ok ts => .ok (acc ++ ts)
theorem SR.add_add (a b : List Tok) (r : SR) : SR.add a (SR.add b r) = SR.add (a ++ b) r := by cases r <;> simp [SR.add]
theorem SR.add_nil (r : SR) : SR.add [] r = r := by cases r <;> simp [SR.add]
/-- the tokens from index k on; f bounds the number of rounds -/
def scanF (src : ByteArray) : Nat → Nat → SR
  | 0, _ => .ok []
  | f + 1, k =>
    if src.size ≤ k + skipL false (src.data.toList.drop k) then .ok [⟨0, ⟨#[]⟩, loc src.data.toList src.size⟩]
    else match oneR (src.data.toList.drop (k + skipL false (src.data.toList.drop k))) with
      | .err c off => .err c (loc src.data.toList (k + skipL false (src.data.toList.drop k) + off))
      | .ok kd n => SR.add [⟨kd, tokT src (k + skipL false (src.data.toList.drop k)) kd n, loc src.data.toList (k + skipL false (src.data.toList.drop k))⟩] (scanF src f (k + skipL false (src.data.toList.drop k) + n))
def scanS (src : ByteArray) : SR := if 65536 < src.size then .err 4 (0, 0) else scanF src (src.size + 1) 0

theorem tw_pos (p : UInt8 → Bool) (l : List UInt8) (h : 0 < l.length) (hp : p (l.getD 0 0) = true) : 0 < tw p l := by
  cases l with
  | nil => simp at h
  | cons c l => rw [tw_cons]; simp at hp; rw [if_pos hp]; omega
theorem oneR_ok (l : List UInt8) (kd : Int) (n : Nat) (h : 0 < l.length) (hr : oneR l = .ok kd n) : 0 < n ∧ n ≤ l.length := by
  unfold oneR at hr
  cases hc : letB (bi (l.getD 0 0))
  · rw [hc] at hr
    cases hd : digB (bi (l.getD 0 0))
    · rw [hd] at hr
      simp only [Bool.false_eq_true, if_false] at hr
      by_cases hq : bi (l.getD 0 0) = 34
      · rw [if_pos hq] at hr
        unfold textR at hr
        split at hr
        · cases hr
        · split at hr
          · cases hr
          · split at hr
            · cases hr
            · injection hr with e1 e2
              subst e2
              rename_i h1 _ _
              rw [List.length_drop] at h1
              omega
      · rw [if_neg hq] at hr
        unfold markR at hr
        split at hr
        · cases hr
        · injection hr with e1 e2
          subst e2
          have := markN_le l
          omega
    · rw [hd] at hr
      simp only [Bool.false_eq_true, if_false, if_true, numR] at hr
      split at hr
      · cases hr
      · split at hr
        · cases hr
        · injection hr with e1 e2
          subst e2
          exact ⟨tw_pos dgB l h hd, tw_le _ _⟩
  · rw [hc] at hr
    simp only [if_true, nameR] at hr
    split at hr
    · cases hr
    · injection hr with e1 e2
      subst e2
      exact ⟨tw_pos nmB l h (by unfold nmB; rw [hc]; rfl), tw_le _ _⟩
end Go.Proofs.Ytffflmghfcgkfaa
