/- Hk, Hv, J8, J9 -/
import Derived.Test.YtbobbbhgdfapjaaGreatZB1
import Derived.Test.YtbobbbhgdfapjaaGreatZB2
import Derived.Test.YtbobbbhgdfapjaaGreatZB3
import Derived.Test.YtbobbbhgdfapjaaGreatZB4
import Derived.Test.YtbobbbhgdfapjaaGreatZBnkt1
import Derived.Test.YtbobbbhgdfapjaaGreatZB5
import Derived.Test.YtbobbbhgdfapjaaGreatZB6
import Derived.Test.YtbobbbhgdfapjaaGreatZB7
import Derived.Test.YtbobbbhgdfapjaaGreatZB9
import Derived.Test.YtbobbbhgdfapjaaGreatZB11
import Derived.Test.YtbobbbhgdfapjaaGreatZB12
import Derived.Test.YtbobbbhgdfapjaaGreatZB13
import Derived.Test.YtbobbbhgdfapjaaGreatZB14
import Derived.Test.YtbobbbhgdfapjaaGreatZB15
import Derived.Test.YtbobbbhgdfapjaaGreatZB16
import Derived.Test.YtbobbbhgdfapjaaGreatZB17
import Derived.Test.YtbobbbhgdfapjaaGreatZB18
import Derived.Test.YtbobbbhgdfapjaaGreatZB19
import Derived.Test.YtbobbbhgdfapjaaGreatZB20
import Derived.Test.YtbobbbhgdfapjaaGreatZBikst1
import Derived.Test.YtbobbbhgdfapjaaGreatZB8
import Derived.Test.YtbobbbhgdfapjaaGreatZB10
import Derived.Test.YtbobbbhgdfapjaaGreatZB21
import Derived.Test.YtbobbbhgdfapjaaGreatZBcis1
import Derived.Test.YtbobbbhgdfapjaaGreatZBnk1
import Derived.Test.YtbobbbhgdfapjaaGreatZB22
import Derived.Test.YtbobbbhgdfapjaaGreatZB23
import Derived.Test.YtbobbbhgdfapjaaGreatZB24
import Derived.Test.YtbobbbhgdfapjaaGreatZB25
import Derived.Test.YtbobbbhgdfapjaaGreatZBncv1
set_option linter.unusedSimpArgs false
set_option linter.unusedVariables false
namespace Go.Proofs.YtbobbbhgdfapjaaGreat
set_option maxHeartbeats 8000000
set_option maxRecDepth 100000
open Go.RowKit Tk
/-! ### lists in order without what stands twice -/
theorem namesS_asc (x : Ex) : SAsc (namesS x) := gath_asc List.Pairwise.nil
open Go.RowKit Tk
/-- what Check says at the first level -/
theorem chk_iff (x : Ex) : chk x 1 = 0 ↔ x.good ∧ levE x ≤ 12 := by
 constructor
 · intro h
   have hg := good_chk x 1 h
   refine ⟨hg, ?_⟩
   rw [chk_good x 1 hg] at h
   split at h
   · cases h
   · omega
 · rintro ⟨hg, hl⟩
   rw [chk_good x 1 hg, if_neg (by omega)]
open Go.RowKit Tk
/-! ### what does not depend on where an expression lies -/
/-! ### simple -/
/-! ### it does not change its own result -/
/-! ### a good condition stays one -/
/-! ### levels and sizes do not grow -/
/-! ### names -/
theorem names_op1 (o : Int) (a : Ex) : namesE (opX o [a]) = namesE a := by unfold opX; rw [namesE, namesEs, namesEs]; simp [zH]
theorem names_op2 (o : Int) (a b : Ex) : namesE (opX o [a, b]) = namesE a ++ namesE b := by unfold opX; rw [namesE, namesEs, namesEs, namesEs]; simp [zH]
theorem neg_names {x : Ex} (hg : x.good) {n : ByteArray} (hn : n ∈ namesE (negX x)) : n ∈ namesE x := by
 unfold negX at hn
 by_cases hc : x.h.op = 2 ∧ x.kids.length = 1
 · rw [if_pos hc] at hn
   obtain ⟨a, ha, -⟩ := kids1 hg hc.1
   rw [ha] at hn
   rw [namesE_eq, ha, namesEs]
   exact List.mem_append.2 (.inr (List.mem_append.2 (.inl hn)))
 · rw [if_neg hc, names_op1] at hn; exact hn
theorem simE_names0 {x : Ex} (h : x.good) : ∀ n : ByteArray, n ∈ namesE (simE x) → n ∈ namesE x := by
 refine h.ind (P := fun x => ∀ n : ByteArray, n ∈ namesE (simE x) → n ∈ namesE x) (fun x hg h1 => ?_) (fun x a hg h1 hk hga iha => ?_) (fun x a b hg ho hk hga hgb iha ihb => ?_)
 · intro n hn; rwa [simE_name hg h1] at hn
 · intro n hn
   rw [simE_not hk] at hn
   have := iha _ (neg_names (good_simE hga) hn)
   rw [namesE_eq, hk, namesEs]
   exact List.mem_append.2 (.inr (List.mem_append.2 (.inl this)))
 · intro n hn
   have hab : n ∈ namesE a ∨ n ∈ namesE b := by
    rw [simE_two hk] at hn
    cases hs : simS x.h.op (simE a) (simE b) with
    | none =>
      rw [hs, Option.getD_none, names_op2, List.mem_append] at hn
      exact hn.imp (iha _) (ihb _)
    | some z =>
      rw [hs, Option.getD_some] at hn
      rcases simS_one hs with rfl | rfl | rfl | rfl
      · exact .inl (iha _ hn)
      · exact .inr (ihb _ hn)
      · exact .inl (iha _ (neg_names (good_simE hga) hn))
      · exact .inr (ihb _ (neg_names (good_simE hgb) hn))
   rw [namesE_eq, hk, namesEs, namesEs, List.mem_append, List.mem_append, List.mem_append]
   rcases hab with h | h
   · exact .inr (.inl h)
   · exact .inr (.inr (.inl h))
theorem simE_names {x : Ex} (h : x.good) {n : ByteArray} (hn : n ∈ namesE (simE x)) : n ∈ namesE x := simE_names0 h n hn
open Go.RowKit Tk
/-! ### what Simplify returns -/
/-- a result has no more names -/
theorem sub_len : ∀ {l m : List ByteArray}, l.Nodup → (∀ x ∈ l, x ∈ m) → l.length ≤ m.length
 | [], _, _, _ => Nat.zero_le _
 | a :: l, m, hn, hs => by
   have ha := hs a (by simp)
   have hn' := List.nodup_cons.1 hn
   have h1 := sub_len (l := l) (m := m.filter fun x => decide (x ≠ a)) hn'.2 (fun x hx => List.mem_filter.2 ⟨hs x (by simp [hx]), decide_eq_true fun e => hn'.1 (e ▸ hx)⟩)
   have h2 : (m.filter fun x => decide (x ≠ a)).length < m.length := List.length_filter_lt_length_iff_exists.2 ⟨a, ha, by simp⟩
   rw [List.length_cons]; omega
theorem names_fewer {x y : Ex} (h : ∀ n ∈ namesE y, n ∈ namesE x) : (namesS y).length ≤ (namesS x).length :=
 sub_len (namesS_asc y).nodup fun n hn => namesS_mem.2 (h n (namesS_mem.1 hn))
end Go.Proofs.YtbobbbhgdfapjaaGreat
