/- Ht -/
import Derived.Test.YtbobbbhgdfapjaaZR1
import Derived.Test.YtbobbbhgdfapjaaZR2
import Derived.Test.YtbobbbhgdfapjaaZR3
import Derived.Test.YtbobbbhgdfapjaaZR4
import Derived.Test.YtbobbbhgdfapjaaZR5
import Derived.Test.YtbobbbhgdfapjaaZR6
import Derived.Test.YtbobbbhgdfapjaaZR7
import Derived.Test.YtbobbbhgdfapjaaZR9
import Derived.Test.YtbobbbhgdfapjaaZR10
import Derived.Test.YtbobbbhgdfapjaaZR11
import Derived.Test.YtbobbbhgdfapjaaZR12
import Derived.Test.YtbobbbhgdfapjaaZR13
import Derived.Test.YtbobbbhgdfapjaaZR14
import Derived.Test.YtbobbbhgdfapjaaZR15
import Derived.Test.YtbobbbhgdfapjaaZR16
import Derived.Test.YtbobbbhgdfapjaaZR17
import Derived.Test.YtbobbbhgdfapjaaZR18
import Derived.Test.YtbobbbhgdfapjaaZR19
import Derived.Test.YtbobbbhgdfapjaaZR20
set_option linter.unusedSimpArgs false
set_option linter.unusedVariables false
namespace Go.Proofs.Ytbobbbhgdfapjaa
set_option maxHeartbeats 8000000
set_option maxRecDepth 100000
open Go.RowKit Tk
theorem Ex.ok.but0 {w w1 : World} {x : Ex} {X : Nat} (h : x.ok w) (hb : But X w w1) (hm : x.away X) : x.ok w1 := Ex.ok.only (Only.of_but hb (List.mem_singleton.2 rfl)) h hm
/-- the codes of the parser's faults -/
theorem prs_err (ts : List Tok) : ∀ f : Nat,
    (∀ n i d k j, prs ts f n i d = .err k j → k = 4 ∨ k = 9) ∧
    (∀ n x i d k j, plp ts f n x i d = .err k j → k = 4 ∨ k = 9)
 | 0 => ⟨fun n i d x j h => (by rw [prs] at h; cases h), fun n x i d y j h => (by rw [plp] at h; cases h)⟩
 | f + 1 => by
   obtain ⟨ihp, ihl⟩ := prs_err ts f
   refine ⟨fun n i d y k h => ?_, fun n x i d y k h => ?_⟩
   · rw [prs] at h
     by_cases hn : n = 5
     · subst hn
       rw [if_pos rfl] at h
       cases hnm : nameAt ts i with
       | some s => rw [hnm] at h; cases h
       | none =>
         rw [hnm] at h
         dsimp only at h
         by_cases hb : isM ts i ⟨#[33]⟩ = true
         · rw [if_pos hb] at h
           by_cases hd : 12 ≤ d
           · rw [if_pos hd] at h; injection h with h _; exact .inl h.symm
           · rw [if_neg hd] at h
             cases hr : prs ts f 5 (i + 1) (d + 1) with
             | none => rw [hr] at h; cases h
             | err c j => rw [hr] at h; injection h with h1 _; subst h1; exact ihp _ _ _ _ _ hr
             | ok x j => rw [hr] at h; cases h
         · rw [if_neg hb] at h
           by_cases hp : isM ts i ⟨#[40]⟩ = true
           · rw [if_pos hp] at h
             by_cases hd : 12 ≤ d
             · rw [if_pos hd] at h; injection h with h _; exact .inl h.symm
             · rw [if_neg hd] at h
               cases hr : prs ts f 1 (i + 1) (d + 1) with
               | none => rw [hr] at h; cases h
               | err c j => rw [hr] at h; injection h with h1 _; subst h1; exact ihp _ _ _ _ _ hr
               | ok x j =>
                 rw [hr] at h
                 dsimp only at h
                 by_cases hc : isM ts j ⟨#[41]⟩ = true
                 · rw [if_pos hc] at h; cases h
                 · rw [if_neg hc] at h; injection h with h _; exact .inr h.symm
           · rw [if_neg hp] at h; injection h with h _; exact .inr h.symm
     · rw [if_neg hn] at h
       cases hr : prs ts f (n + 1) i d with
       | none => rw [hr] at h; cases h
       | err c j => rw [hr] at h; injection h with h1 _; subst h1; exact ihp _ _ _ _ _ hr
       | ok x j => rw [hr] at h; exact ihl _ _ _ _ _ _ h
   · rw [plp] at h
     by_cases ho : opAt ts i n = 0
     · rw [if_pos ho] at h; cases h
     · rw [if_neg ho] at h
       cases hr : prs ts f (n + 1) (i + 1) d with
       | none => rw [hr] at h; cases h
       | err c j => rw [hr] at h; injection h with h1 _; subst h1; exact ihp _ _ _ _ _ hr
       | ok y j => rw [hr] at h; exact ihl _ _ _ _ _ _ h
theorem not_in1 {a X : Nat} (h : X ≠ a) : X ∉ [a] := by simp [h]
theorem isM_kind {ts : List Tok} {i : Nat} {m : ByteArray} (h : isM ts i m = true) : ∃ t, ts[i]? = some t ∧ t.kind = 4 := by
 unfold isM at h
 split at h
 · rename_i t ht
   simp only [Bool.and_eq_true, decide_eq_true_eq] at h
   exact ⟨t, ht, h.1⟩
 · cases h
end Go.Proofs.Ytbobbbhgdfapjaa
