/- How many events of one key are permitted within a time; plain. -/
import Derived.Test.YtokadblncmjanaaRv
set_option linter.unusedSimpArgs false
set_option linter.unusedVariables false
namespace Go.Proofs.Ytokadblncmjanaa
open Go.RowKit Tk
def curB (R : RL) (t : Int) : Bk := match R.bs with
  | [] => ⟨R.burst, t, 0⟩
  | p :: _ => p.2
structure OneKey (R : RL) (k : ByteArray) : Prop where
  par : Par R.burst R.itv
  keys : R.keys = 1
  one : R.bs = [] ∨ ∃ b, R.bs = [(k, b)]
  t0 : 0 ≤ R.time
  bk : ∀ t, R.time ≤ t → ∃ M, BkOk R.burst t M (curB R t)
structure OneStep (R : RL) (A : RL × Bool) (k : ByteArray) (t : Int) : Prop where
  one : OneKey A.1 k
  burst : A.1.burst = R.burst
  itv : A.1.itv = R.itv
  time : A.1.time = t
  ge : R.time ≤ t
  no : A.2 = false → (curB A.1 t).left = (fill R.burst R.itv (curB R t) t).left ∧ (curB A.1 t).clock = (fill R.burst R.itv (curB R t) t).clock
  yes : A.2 = true → (curB A.1 t).left = (fill R.burst R.itv (curB R t) t).left - 1 ∧ (curB A.1 t).clock = (fill R.burst R.itv (curB R t) t).clock
  bs : ∃ b, A.1.bs = [(k, b)]
theorem one_fin {R S : RL} {k : ByteArray} {b0 b : Bk} {t M : Int} (h : OneKey R k) (hS : S.bs = [(k, b0)]) (e1 : S.burst = R.burst) (e2 : S.itv = R.itv) (e3 : S.keys = R.keys) (e4 : S.time = t) (hge : R.time ≤ t) (hb : BkOk R.burst t M b) (hcur : curB R t = b) : OneStep R (S.fin k b t) k t := by
  have hp := h.par
  have hf := fill_ok hp hb (Int.le_refl _)
  have ht0 := h.t0
  unfold RL.fin
  rw [e1, e2]
  dsimp only
  have hset : ∀ c, setB k c S.bs = [(k, c)] := fun c => by rw [hS]; simp [setB]
  split
  · refine ⟨⟨hp, by dsimp only; rw [e3]; exact h.keys, .inr ⟨_, hset _⟩, by dsimp only; omega, fun t' ht' => ?_⟩, rfl, rfl, e4, hge, fun _ => ?_, fun h => by simp at h, ⟨_, hset _⟩⟩
    · dsimp only at ht'
      refine ⟨M + 1, ?_⟩
      unfold curB
      dsimp only
      rw [hset]
      have h0 := hf.d0
      have h1 := hf.d1
      exact ⟨hf.l0, hf.l1, hf.c0, Int.le_trans hf.c1 (by omega), by dsimp only; omega, by dsimp only; omega⟩
    · unfold curB
      dsimp only
      rw [hset]
      subst hcur
      exact ⟨rfl, rfl⟩
  · rename_i hz
    have hl0 := hf.l0
    have hl1 := hf.l1
    refine ⟨⟨hp, by dsimp only; rw [e3]; exact h.keys, .inr ⟨_, hset _⟩, by dsimp only; omega, fun t' ht' => ?_⟩, rfl, rfl, e4, hge, fun h => by simp at h, fun _ => ?_, ⟨_, hset _⟩⟩
    · dsimp only at ht'
      refine ⟨M, ?_⟩
      unfold curB
      dsimp only
      rw [hset]
      have hM : 0 ≤ M := Int.le_trans hf.d0 hf.d1
      exact ⟨by dsimp only; omega, by dsimp only; omega, hf.c0, Int.le_trans hf.c1 (by omega), Int.le_refl _, hM⟩
    · unfold curB
      dsimp only
      rw [hset]
      subst hcur
      exact ⟨rfl, rfl⟩
theorem one_allow {R : RL} {k : ByteArray} (h : OneKey R k) (now : Int) : OneStep R (R.allow k now) k (R.clockAt now) := by
  have hge := clock_ge R now
  have hp := h.par
  obtain ⟨M, hb⟩ := h.bk _ hge
  unfold RL.allow
  dsimp only
  rcases h.one with hn | ⟨b, hn⟩
  · have hl : lookB k R.bs = none := by rw [hn]; rfl
    have hc : curB R (R.clockAt now) = ⟨R.burst, R.clockAt now, 0⟩ := by unfold curB; rw [hn]
    rw [hl]
    dsimp only
    have hr : RL.room { R with time := R.clockAt now } (R.clockAt now) = { R with time := R.clockAt now } := if_neg (by dsimp only; rw [h.keys, hn]; decide)
    rw [hr]
    rw [if_neg (by dsimp only; rw [h.keys, hn]; decide)]
    rw [hc] at hb
    exact one_fin (b0 := ⟨R.burst, R.clockAt now, 0⟩) h (by dsimp only; rw [hn]; rfl) rfl rfl rfl rfl hge hb hc
  · have hl : lookB k R.bs = some b := by rw [hn]; simp [lookB]
    have hc : curB R (R.clockAt now) = b := by unfold curB; rw [hn]
    rw [hl]
    dsimp only
    rw [hc] at hb
    exact one_fin (b0 := b) h hn rfl rfl rfl rfl hge hb hc
/-- the times of the events that are permitted -/
def timesB (k : ByteArray) (R : RL) : List Int → List Int
  | [] => []
  | n :: l => if (R.allow k n).2 = true then (R.allow k n).1.time :: timesB k (R.allow k n).1 l else timesB k (R.allow k n).1 l
theorem fill_credit {bu it t M cl : Int} {b : Bk} (hp : Par bu it) (hb : BkOk bu t M b) (hcl : cl ≤ b.clock) {c : Int} (h : c + b.left ≤ bu + (b.clock - cl) / it) :
    c + (fill bu it b t).left ≤ bu + ((fill bu it b t).clock - cl) / it ∧ cl ≤ (fill bu it b t).clock ∧ (fill bu it b t).clock ≤ t := by
  have hf := fill_ok hp hb (Int.le_refl _)
  have hi := hp.i0
  have hq : 0 ≤ (t - b.clock) / it := Int.ediv_nonneg (by have := hb.c1; omega) (by omega)
  have hm : (t - b.clock) / it * it ≤ t - b.clock := Int.ediv_mul_le _ (by omega)
  have hm0 : 0 ≤ (t - b.clock) / it * it := Int.mul_nonneg hq (by omega)
  have e : ∀ x : Int, b.clock + (t - b.clock) / it * it ≤ x → (b.clock - cl) / it + (t - b.clock) / it ≤ (x - cl) / it := fun x hx => by
    have e1 : (b.clock - cl) / it + (t - b.clock) / it = (b.clock - cl + (t - b.clock) / it * it) / it := (Int.add_mul_ediv_right _ _ (by omega)).symm
    rw [e1]
    exact Int.ediv_le_ediv (by omega) (by omega)
  refine ⟨?_, ?_, hf.c1⟩
  · unfold fill
    split
    · rename_i hlt
      have := e t (by omega)
      dsimp only
      omega
    · dsimp only
      split
      · have := e t (by omega)
        omega
      · have := e (b.clock + (t - b.clock) / it * it) (Int.le_refl _)
        omega
  · unfold fill
    split
    · have := hb.c1; dsimp only; omega
    · dsimp only
      split
      · have := hb.c1; omega
      · omega
theorem times_credit (k : ByteArray) : ∀ (l : List Int) (R : RL) (b : Bk) (c cl : Int), OneKey R k → R.bs = [(k, b)] → cl ≤ b.clock → c + b.left ≤ R.burst + (b.clock - cl) / R.itv →
    ∀ m (hm : m < (timesB k R l).length), c + ((m : Int) + 1) ≤ R.burst + ((timesB k R l)[m] - cl) / R.itv
  | [], R, b, c, cl, _, _, _, _, m, hm => by simp [timesB] at hm
  | n :: l, R, b, c, cl, h, hbs, hcl, hc, m, hm => by
    have hs := one_allow h n
    have hge := clock_ge R n
    have hcur : curB R (R.clockAt n) = b := by unfold curB; rw [hbs]
    obtain ⟨M, hb⟩ := h.bk _ hge
    rw [hcur] at hb
    obtain ⟨k1, k2, k3⟩ := fill_credit h.par hb hcl hc
    have hf := fill_ok h.par hb (Int.le_refl _)
    have hi := h.par.i0
    obtain ⟨b', hb'⟩ := hs.bs
    have hcur' : curB (R.allow k n).1 (R.clockAt n) = b' := by unfold curB; rw [hb']
    have hno := hs.no
    have hyes := hs.yes
    rw [hcur, hcur'] at hno hyes
    by_cases hok : (R.allow k n).2 = true
    · obtain ⟨y1, y2⟩ := hyes hok
      have ht : timesB k R (n :: l) = (R.allow k n).1.time :: timesB k (R.allow k n).1 l := if_pos hok
      have hl0 : 0 ≤ b'.left := by
        obtain ⟨M2, h2⟩ := hs.one.bk (R.clockAt n) (by rw [hs.time]; exact Int.le_refl _)
        rw [hcur'] at h2
        exact h2.l0
      have ih := times_credit k l (R.allow k n).1 b' (c + 1) cl hs.one hb' (by rw [y2]; exact k2) (by rw [hs.burst, hs.itv, y1, y2]; omega)
      rw [hs.burst, hs.itv] at ih
      simp only [ht] at hm ⊢
      cases m with
      | zero =>
        simp only [List.getElem_cons_zero]
        rw [hs.time]
        have : ((fill R.burst R.itv b (R.clockAt n)).clock - cl) / R.itv ≤ (R.clockAt n - cl) / R.itv := Int.ediv_le_ediv (by omega) (by omega)
        omega
      | succ m =>
        have := ih m (by simpa using hm)
        simp only [List.getElem_cons_succ]
        omega
    · have hok' : (R.allow k n).2 = false := by simpa using hok
      obtain ⟨y1, y2⟩ := hno hok'
      have ht : timesB k R (n :: l) = timesB k (R.allow k n).1 l := if_neg hok
      have ih := times_credit k l (R.allow k n).1 b' c cl hs.one hb' (by rw [y2]; exact k2) (by rw [hs.burst, hs.itv, y1, y2]; omega)
      rw [hs.burst, hs.itv] at ih
      simp only [ht] at hm ⊢
      exact ih m hm
theorem times_bound (k : ByteArray) : ∀ (l : List Int) (R : RL), OneKey R k → ∀ i m (him : i ≤ m) (hm : m < (timesB k R l).length), (m : Int) - i + 1 ≤ R.burst + ((timesB k R l)[m] - (timesB k R l)[i]) / R.itv + 1
  | [], R, _, i, m, _, hm => by simp [timesB] at hm
  | n :: l, R, h, i, m, him, hm => by
    have hs := one_allow h n
    have hge := clock_ge R n
    obtain ⟨M, hb⟩ := h.bk _ hge
    have hf := fill_ok h.par hb (Int.le_refl _)
    have hr := fill_rest h.par hb
    have hi := h.par.i0
    have hbu := h.par.b0
    obtain ⟨b', hb'⟩ := hs.bs
    have hcur' : curB (R.allow k n).1 (R.clockAt n) = b' := by unfold curB; rw [hb']
    have hyes := hs.yes
    rw [hcur'] at hyes
    have ih := times_bound k l (R.allow k n).1 hs.one
    rw [hs.burst, hs.itv] at ih
    by_cases hok : (R.allow k n).2 = true
    · obtain ⟨y1, y2⟩ := hyes hok
      have ht : timesB k R (n :: l) = (R.allow k n).1.time :: timesB k (R.allow k n).1 l := if_pos hok
      simp only [ht] at hm ⊢
      cases i with
      | succ i =>
        cases m with
        | zero => omega
        | succ m =>
          simp only [List.getElem_cons_succ]
          have := ih i m (by omega) (by simpa using hm)
          omega
      | zero =>
        cases m with
        | zero =>
          simp only [List.getElem_cons_zero, Int.sub_self, Int.zero_ediv]
          omega
        | succ m =>
          simp only [List.getElem_cons_zero, List.getElem_cons_succ]
          have hl1 := hf.l1
          have hthis := times_credit k l (R.allow k n).1 b' 1 b'.clock hs.one hb' (Int.le_refl _) (by rw [hs.burst, y1, Int.sub_self, Int.zero_ediv]; omega) m (by simpa using hm)
          rw [hs.burst, hs.itv, y2] at hthis
          rw [← hs.time] at hr
          have fin : ∀ T tt cc : Int, 1 + ((m : Int) + 1) ≤ R.burst + (T - cc) / R.itv → (tt - cc) / R.itv = 0 → ((m + 1 : Nat) : Int) - ((0 : Nat) : Int) + 1 ≤ R.burst + (T - tt) / R.itv + 1 := fun T tt cc h5 h6 => by
            have h3 : tt - cc < R.itv := by
              by_cases h3 : tt - cc < R.itv
              · exact h3
              · have := Int.ediv_le_ediv (show 0 < R.itv by omega) (show R.itv ≤ tt - cc by omega)
                rw [Int.ediv_self (by omega)] at this
                omega
            have h4 : (T - cc) / R.itv ≤ (T - tt) / R.itv + 1 := by
              have e1 : (T - tt) / R.itv + 1 = (T - tt + 1 * R.itv) / R.itv := (Int.add_mul_ediv_right _ _ (by omega)).symm
              rw [e1]
              exact Int.ediv_le_ediv (by omega) (by omega)
            omega
          rw [hs.time] at hr
          exact fin _ _ _ hthis (by rw [hs.time]; exact hr)
    · have ht : timesB k R (n :: l) = timesB k (R.allow k n).1 l := if_neg hok
      simp only [ht] at hm ⊢
      exact ih i m him hm
end Go.Proofs.Ytokadblncmjanaa
