/- A reference's event by way of its known; plain. -/
import Derived.Test.YtokadblncmjanaaRj
set_option linter.unusedSimpArgs false
set_option linter.unusedVariables false
namespace Go.Proofs.Ytokadblncmjanaa
open Go.RowKit Tk
theorem look_keep {bu it t : Int} {k : ByteArray} {l : List (ByteArray × Bk)} (h : lookB k l = none) : lookB k (keepB bu it t l) = none := by
  cases h2 : lookB k (keepB bu it t l) with
  | none => rfl
  | some b =>
    have := look_mem h2
    exact absurd (List.mem_map.2 ⟨_, (List.mem_filter.1 this).1, rfl⟩) (look_none h)
theorem look_insB {k : ByteArray} {b : Bk} : ∀ {l : List (ByteArray × Bk)}, lookB k l = none → lookB k (insB k b l) = some b
  | [], _ => by simp [insB, lookB]
  | p :: l, h => by
    have hn := look_none h
    simp only [List.map_cons, List.mem_cons, not_or] at hn
    have hl : lookB k l = none := by
      unfold lookB at h ⊢
      rwa [List.find?_cons_of_neg (by simpa using hn.1)] at h
    unfold insB
    split
    · have := look_insB (b := b) hl
      unfold lookB at this ⊢
      rwa [List.find?_cons_of_neg (by simpa using hn.1)]
    · simp [lookB]
theorem allow_known (R : RL) (k : ByteArray) (now : Int) (R2 : RL) (h2 : RL.known { R with time := R.clockAt now } k (R.clockAt now) = R2) :
    R.allow k now = match lookB k R2.bs with
      | none => ({ R2 with den := R2.den + 1 }, false)
      | some b => R2.fin k b (R.clockAt now) := by
  unfold RL.known at h2
  unfold RL.allow
  dsimp only at h2 ⊢
  cases hb : lookB k R.bs with
  | some b =>
    rw [hb] at h2
    dsimp only at h2 ⊢
    subst h2
    dsimp only
    rw [hb]
  | none =>
    rw [hb] at h2
    dsimp only at h2 ⊢
    have hr : lookB k (RL.room { R with time := R.clockAt now } (R.clockAt now)).bs = none := by
      unfold RL.room
      split
      · exact look_keep hb
      · exact hb
    split at h2
    · rename_i hf
      subst h2
      rw [hr, if_pos hf]
    · rename_i hf
      subst h2
      dsimp only
      rw [look_insB hr, if_neg hf]
theorem known_ok {M t : Int} {R : RL} (h : R.ok M) (ht : t = R.time) (k : ByteArray) : (R.known k t).ok M ∧ (R.known k t).time = R.time := by
  subst ht
  unfold RL.known
  split
  · exact ⟨h, rfl⟩
  · rename_i hb
    have h2 : RL.ok M (R.room R.time) := by
      unfold RL.room
      split
      · refine ⟨h.par, h.k0, h.k1, h.t0, h.t1, ?_, h.asc.sublist List.filter_sublist, fun p hp => h.bks p ((List.mem_filter.1 hp).1), h.a0, h.a1, h.e0, h.e1⟩
        have := List.length_filter_le (fun p : ByteArray × Bk => !fullB R.burst R.itv p.2 R.time) R.bs
        have := h.len
        dsimp only [keepB] at *
        omega
      · exact h
    have hti : (R.room R.time).time = R.time := by unfold RL.room; split <;> rfl
    have hbu : (R.room R.time).burst = R.burst := by unfold RL.room; split <;> rfl
    split
    · exact ⟨h2, hti⟩
    · rename_i hroom
      have hr : lookB k (R.room R.time).bs = none := by
        unfold RL.room
        split
        · exact look_keep hb
        · exact hb
      have hM : 0 ≤ M := Int.le_trans h.a0 h.a1
      have hp := h.par.b0
      have ht0 := h.t0
      refine ⟨⟨h2.par, h2.k0, h2.k1, h2.t0, h2.t1, ?_, insB_asc h2.asc (look_none hr), fun p hp => ?_, h2.a0, h2.a1, h2.e0, h2.e1⟩, hti⟩
      · dsimp only
        rw [insB_len]
        omega
      · dsimp only at hp ⊢
        rcases insB_mem.1 hp with rfl | hp
        · rw [hbu, hti]; exact ⟨by dsimp only; omega, Int.le_refl _, ht0, Int.le_refl _, Int.le_refl _, hM⟩
        · exact h2.bks p hp
theorem set_idx {k : ByteArray} {c : Bk} : ∀ {l : List (ByteArray × Bk)} {i : Nat} (hi : i < l.length), AscB l → l[i].1 = k → setB k c l = l.set i (k, c)
  | p :: l, 0, _, h, e => by
    have h' := List.pairwise_cons.1 h
    simp only [List.getElem_cons_zero] at e
    subst e
    simp only [setB, List.map_cons, if_true, List.set_cons_zero, List.cons.injEq, true_and]
    have : ∀ q ∈ l, (if p.1 = q.1 then (p.1, c) else q) = q := fun q hq => if_neg fun e => by
      have := h'.1 q hq
      rw [e] at this
      exact List.lt_irrefl _ this
    rw [List.map_congr_left this, List.map_id']
  | p :: l, i + 1, hi, h, e => by
    have h' := List.pairwise_cons.1 h
    simp only [List.getElem_cons_succ] at e
    have hne : ¬ k = p.1 := by
      intro hk
      have := h'.1 (l[i]'(by simpa using hi)) (List.getElem_mem _)
      rw [e, hk] at this
      exact List.lt_irrefl _ this
    have ih := set_idx (c := c) (by simpa using hi) h'.2 e
    simp only [setB, List.map_cons, if_neg hne, List.set_cons_succ, List.cons.injEq, true_and]
    exact ih
end Go.Proofs.Ytokadblncmjanaa
