/- An event is permitted exactly if Left is positive; plain. -/
import Derived.Test.YtokadblncmjanaaRl
set_option linter.unusedSimpArgs false
set_option linter.unusedVariables false
namespace Go.Proofs.Ytokadblncmjanaa
open Go.RowKit Tk
/-- behind a filling no whole interval has passed -/
theorem fill_rest {bu it t M : Int} {b : Bk} (hp : Par bu it) (h : BkOk bu t M b) : (t - (fill bu it b t).clock) / it = 0 := by
  obtain ⟨p1, p2, p3, p4⟩ := hp
  obtain ⟨l0, l1, c0, c1, d0, d1⟩ := h
  have h0 : ∀ x : Int, x = 0 → x / it = 0 := fun x e => by rw [e, Int.zero_ediv]
  unfold fill
  split
  · exact h0 _ (by dsimp only; omega)
  · dsimp only
    split
    · exact h0 _ (by omega)
    · have e : t - (b.clock + (t - b.clock) / it * it) = (t - b.clock) % it := by
        have := Int.emod_add_ediv_mul (t - b.clock) it
        omega
      rw [e]
      exact Int.ediv_eq_zero_of_lt (Int.emod_nonneg _ (by omega)) (Int.emod_lt_of_pos _ (by omega))
theorem fill_less {bu it t M : Int} {b : Bk} (hp : Par bu it) (h : BkOk bu t M b) : (fill bu it ⟨(fill bu it b t).left - 1, (fill bu it b t).clock, 0⟩ t).left = (fill bu it b t).left - 1 := by
  have h1 := fill_rest hp h
  have h2 := (fill_ok hp h (Int.le_refl _)).l1
  generalize fill bu it b t = c at *
  unfold fill
  dsimp only
  rw [h1, if_neg (by omega)]
  dsimp only
  omega
theorem clock_again (R R' : RL) (now : Int) (h : R'.time = R.clockAt now) : R'.clockAt now = R.clockAt now := by
  unfold RL.clockAt at *
  omega
structure LeftLaw (R : RL) (A : RL × Bool) (k : ByteArray) (now : Int) : Prop where
  ok : A.2 = decide (0 < R.left k now)
  yes : A.2 = true → A.1.left k now = R.left k now - 1 ∧ A.1.alw = R.alw + 1 ∧ A.1.den = R.den
  no : A.2 = false → A.1.alw = R.alw ∧ A.1.den = R.den + 1
theorem fin_left {M t : Int} {R S : RL} {k : ByteArray} {b : Bk} {now : Int} (hp : Par S.burst S.itv) (hb : BkOk S.burst t M b) (hk : k ∈ S.bs.map (·.1)) (hti : S.time = t) (hcl : ∀ R' : RL, R'.time = t → R'.clockAt now = t) (hL : R.left k now = (fill S.burst S.itv b t).left) (ha : S.alw = R.alw) (hd : S.den = R.den) : LeftLaw R (S.fin k b t) k now := by
  have h0 := (fill_ok hp hb (Int.le_refl _)).l0
  have hless := fill_less hp hb
  unfold RL.fin
  dsimp only
  split
  · rename_i hz
    exact ⟨by rw [hL, hz]; rfl, fun h => by simp at h, fun _ => ⟨ha, by dsimp only; rw [hd]⟩⟩
  · rename_i hz
    refine ⟨by rw [hL]; simp; omega, fun _ => ⟨?_, by dsimp only; rw [ha], hd⟩, fun h => by simp at h⟩
    rw [hL]
    unfold RL.left
    dsimp only
    have hc2 := hcl { S with bs := setB k ⟨(fill S.burst S.itv b t).left - 1, (fill S.burst S.itv b t).clock, 0⟩ S.bs, alw := S.alw + 1 } hti
    rw [look_set_eq hk]
    dsimp only at hc2 ⊢
    rw [hc2]
    exact hless
theorem left_law {M : Int} {R : RL} (h : R.ok M) (k : ByteArray) (now : Int) : LeftLaw R (R.allow k now) k now := by
  have hge := clock_ge R now
  have hcl : ∀ R' : RL, R'.time = R.clockAt now → R'.clockAt now = R.clockAt now := fun R' e => clock_again R R' now e
  have hp := h.par
  have hM : 0 ≤ M := Int.le_trans h.a0 h.a1
  have ht0 := h.t0
  unfold RL.allow
  dsimp only
  cases hb : lookB k R.bs with
  | some b =>
    dsimp only
    exact fin_left (S := { R with time := R.clockAt now }) hp ((h.bks _ (look_mem hb)).later hge (Int.le_refl _)) (List.mem_map.2 ⟨_, look_mem hb, rfl⟩) rfl hcl (by unfold RL.left; dsimp only; rw [hb]) rfl rfl
  | none =>
    dsimp only
    have hL : R.left k now = if R.keys ≤ R.bs.length ∧ R.keys ≤ (keepB R.burst R.itv (R.clockAt now) R.bs).length then 0 else R.burst := by unfold RL.left; dsimp only; rw [hb]
    have hnew : BkOk R.burst (R.clockAt now) M ⟨R.burst, R.clockAt now, 0⟩ := ⟨by have := hp.b0; dsimp only; omega, Int.le_refl _, by dsimp only; omega, Int.le_refl _, Int.le_refl _, hM⟩
    have key : ∀ bs2 : List (ByteArray × Bk), LeftLaw R (RL.fin { R with time := R.clockAt now, bs := insB k ⟨R.burst, R.clockAt now, 0⟩ bs2 } k ⟨R.burst, R.clockAt now, 0⟩ (R.clockAt now)) k now ∨ ¬ R.left k now = R.burst := fun bs2 => by
      by_cases hLb : R.left k now = R.burst
      · left
        refine fin_left hp hnew (List.mem_map.2 ⟨_, insB_mem.2 (.inl rfl), rfl⟩) rfl hcl ?_ rfl rfl
        dsimp only
        rw [fill_new hp, hLb]
      · exact .inr hLb
    unfold RL.room
    dsimp only
    by_cases h1 : R.keys ≤ R.bs.length
    · rw [if_pos h1]
      dsimp only
      by_cases h2 : R.keys ≤ (keepB R.burst R.itv (R.clockAt now) R.bs).length
      · rw [if_pos h2]
        rw [if_pos ⟨h1, h2⟩] at hL
        exact ⟨by rw [hL]; rfl, fun h => by simp at h, fun _ => ⟨rfl, rfl⟩⟩
      · rw [if_neg h2]
        rw [if_neg (fun e => h2 e.2)] at hL
        exact (key _).resolve_right fun e => e hL
    · rw [if_neg h1]
      dsimp only
      rw [if_neg h1]
      rw [if_neg (fun e => h1 e.1)] at hL
      exact (key _).resolve_right fun e => e hL
end Go.Proofs.Ytokadblncmjanaa
