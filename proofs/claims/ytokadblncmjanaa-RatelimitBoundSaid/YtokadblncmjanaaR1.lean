/- Rate limits: what a limiter holds, plainly. -/
import Derived.Test.YtokadblncmjanaaOr
import Derived.Test.YtokadblncmjanaaMd
set_option linter.unusedSimpArgs false
set_option linter.unusedVariables false
namespace Go.Proofs.Ytokadblncmjanaa
open Go.RowKit Tk
structure Bk where
  left : Int
  clock : Int
  drop : Int
structure RL where
  burst : Int
  itv : Int
  keys : Int
  time : Int
  bs : List (ByteArray × Bk)
  alw : Int
  den : Int
def big : Int := 1125899906842624
def RL.clockAt (R : RL) (now : Int) : Int := max R.time (min now big)
def fill (bu it : Int) (b : Bk) (t : Int) : Bk :=
  if bu - b.left < (t - b.clock) / it then ⟨bu, t, b.drop⟩
  else ⟨b.left + (t - b.clock) / it, if b.left + (t - b.clock) / it = bu then t else b.clock + (t - b.clock) / it * it, b.drop⟩
def fullB (bu it : Int) (b : Bk) (t : Int) : Bool := decide ((fill bu it b t).left = bu)
structure BkOk (bu t M : Int) (b : Bk) : Prop where
  l0 : 0 ≤ b.left
  l1 : b.left ≤ bu
  c0 : 0 ≤ b.clock
  c1 : b.clock ≤ t
  d0 : 0 ≤ b.drop
  d1 : b.drop ≤ M
structure Par (bu it : Int) : Prop where
  b0 : 1 ≤ bu
  b1 : bu ≤ 1000000
  i0 : 1 ≤ it
  i1 : it ≤ 1000000
theorem fill_ok {bu it t t' M : Int} {b : Bk} (hp : Par bu it) (h : BkOk bu t M b) (ht : t ≤ t') : BkOk bu t' M (fill bu it b t') := by
  obtain ⟨p1, p2, p3, p4⟩ := hp
  obtain ⟨l0, l1, c0, c1, d0, d1⟩ := h
  have hq : 0 ≤ (t' - b.clock) / it := Int.ediv_nonneg (by omega) (by omega)
  have hm : (t' - b.clock) / it * it ≤ t' - b.clock := Int.ediv_mul_le _ (by omega)
  have hm0 : 0 ≤ (t' - b.clock) / it * it := Int.mul_nonneg hq (by omega)
  unfold fill
  generalize (t' - b.clock) / it * it = d at *
  generalize (t' - b.clock) / it = q at *
  split
  · exact ⟨by show 0 ≤ bu; omega, by show bu ≤ bu; omega, by show 0 ≤ t'; omega, by show t' ≤ t'; omega, d0, d1⟩
  · refine ⟨by show 0 ≤ _ + _; omega, by show _ + _ ≤ _; omega, ?_, ?_, d0, d1⟩
    · dsimp only
      split <;> omega
    · dsimp only
      split <;> omega
theorem fill_drop (bu it : Int) (b : Bk) (t : Int) : (fill bu it b t).drop = b.drop := by unfold fill; split <;> rfl
/-- a fresh bucket is full -/
theorem fill_new {bu it t : Int} (hp : Par bu it) : fill bu it ⟨bu, t, 0⟩ t = ⟨bu, t, 0⟩ := by
  unfold fill
  have : (t - t) / it = 0 := by rw [Int.sub_self, Int.zero_ediv]
  simp only [this]
  rw [if_neg (by omega)]
  simp
def lookB (k : ByteArray) (l : List (ByteArray × Bk)) : Option Bk := (l.find? fun p => decide (k = p.1)).map (·.2)
def setB (k : ByteArray) (b : Bk) (l : List (ByteArray × Bk)) : List (ByteArray × Bk) := l.map fun p => if k = p.1 then (k, b) else p
def insB (k : ByteArray) (b : Bk) : List (ByteArray × Bk) → List (ByteArray × Bk)
  | [] => [(k, b)]
  | p :: l => if key p.1 < key k then p :: insB k b l else (k, b) :: p :: l
def keepB (bu it : Int) (t : Int) (l : List (ByteArray × Bk)) : List (ByteArray × Bk) := l.filter fun p => !fullB bu it p.2 t
def RL.fin (R : RL) (k : ByteArray) (b : Bk) (t : Int) : RL × Bool :=
  let c := fill R.burst R.itv b t
  if c.left = 0 then ({ R with bs := setB k { c with drop := c.drop + 1 } R.bs, den := R.den + 1 }, false)
  else ({ R with bs := setB k ⟨c.left - 1, c.clock, 0⟩ R.bs, alw := R.alw + 1 }, true)
/-- the state behind making a key known -/
def RL.room (R : RL) (t : Int) : RL := if R.keys ≤ R.bs.length then { R with bs := keepB R.burst R.itv t R.bs } else R
def RL.allow (R : RL) (k : ByteArray) (now : Int) : RL × Bool :=
  let t := R.clockAt now
  let R1 := { R with time := t }
  match lookB k R.bs with
  | some b => R1.fin k b t
  | none =>
    let R2 := R1.room t
    if R2.keys ≤ R2.bs.length then ({ R2 with den := R2.den + 1 }, false)
    else RL.fin { R2 with bs := insB k ⟨R.burst, t, 0⟩ R2.bs } k ⟨R.burst, t, 0⟩ t
def RL.left (R : RL) (k : ByteArray) (now : Int) : Int :=
  let t := R.clockAt now
  match lookB k R.bs with
  | some b => (fill R.burst R.itv b t).left
  | none => if R.keys ≤ R.bs.length ∧ R.keys ≤ (keepB R.burst R.itv t R.bs).length then 0 else R.burst
def RL.dropped (R : RL) (k : ByteArray) : Int := ((lookB k R.bs).map (·.drop)).getD 0
def AscB (l : List (ByteArray × Bk)) : Prop := l.Pairwise fun a b => key a.1 < key b.1
structure RL.ok (M : Int) (R : RL) : Prop where
  par : Par R.burst R.itv
  k0 : 1 ≤ R.keys
  k1 : R.keys ≤ 1024
  t0 : 0 ≤ R.time
  t1 : R.time ≤ big
  len : (R.bs.length : Int) ≤ R.keys
  asc : AscB R.bs
  bks : ∀ p ∈ R.bs, BkOk R.burst R.time M p.2
  a0 : 0 ≤ R.alw
  a1 : R.alw ≤ M
  e0 : 0 ≤ R.den
  e1 : R.den ≤ M
theorem clock_ge (R : RL) (now : Int) : R.time ≤ R.clockAt now := by unfold RL.clockAt; omega
theorem clock_le {M : Int} {R : RL} (h : R.ok M) (now : Int) : R.clockAt now ≤ big := by
  have := h.t1
  unfold RL.clockAt
  omega
theorem setB_keys (k : ByteArray) (b : Bk) (l : List (ByteArray × Bk)) : (setB k b l).map (·.1) = l.map (·.1) := by
  unfold setB
  rw [List.map_map]
  refine List.map_congr_left fun p _ => ?_
  by_cases h : k = p.1 <;> simp [h]
theorem AscB.keys {l l' : List (ByteArray × Bk)} (h : AscB l) (hk : l'.map (·.1) = l.map (·.1)) : AscB l' := by
  have h1 : (l.map (·.1)).Pairwise fun a b => key a < key b := List.pairwise_map.2 h
  rw [← hk] at h1
  exact (List.pairwise_map (R := fun a b => key a < key b) (f := fun p : ByteArray × Bk => p.1)).1 h1
theorem insB_mem {k : ByteArray} {b : Bk} {p : ByteArray × Bk} : ∀ {l : List (ByteArray × Bk)}, p ∈ insB k b l ↔ p = (k, b) ∨ p ∈ l
  | [] => by simp [insB]
  | q :: l => by
    unfold insB
    split
    · rw [List.mem_cons, insB_mem, List.mem_cons]
      constructor
      · rintro (h | h | h)
        · exact .inr (.inl h)
        · exact .inl h
        · exact .inr (.inr h)
      · rintro (h | h | h)
        · exact .inr (.inl h)
        · exact .inl h
        · exact .inr (.inr h)
    · rw [List.mem_cons, List.mem_cons]
theorem insB_len (k : ByteArray) (b : Bk) : ∀ l : List (ByteArray × Bk), (insB k b l).length = l.length + 1
  | [] => rfl
  | q :: l => by unfold insB; split <;> simp [insB_len k b l]
theorem insB_asc {k : ByteArray} {b : Bk} : ∀ {l : List (ByteArray × Bk)}, AscB l → k ∉ l.map (·.1) → AscB (insB k b l)
  | [], _, _ => List.pairwise_singleton _ _
  | q :: l, h, hn => by
    simp only [List.map_cons, List.mem_cons, not_or] at hn
    have h' := List.pairwise_cons.1 h
    unfold insB
    split
    · rename_i hq
      refine List.pairwise_cons.2 ⟨fun p hp => ?_, insB_asc h'.2 hn.2⟩
      rcases insB_mem.1 hp with rfl | hp
      · exact hq
      · exact h'.1 p hp
    · rename_i hq
      have hk : key k < key q.1 := by
        rcases List.le_iff_lt_or_eq.1 (List.not_lt.1 hq) with h1 | h1
        · exact h1
        · exact absurd (key_inj h1) hn.1
      refine List.pairwise_cons.2 ⟨fun p hp => ?_, h⟩
      rcases List.mem_cons.1 hp with rfl | hp
      · exact hk
      · exact List.lt_trans hk (h'.1 p hp)
theorem AscB.nodup {l : List (ByteArray × Bk)} (h : AscB l) : (l.map (·.1)).Nodup := by
  have h1 : (l.map (·.1)).Pairwise fun a b => key a < key b := List.pairwise_map.2 h
  exact h1.imp fun {a b} hab e => by subst e; exact List.lt_irrefl _ hab
theorem look_none {k : ByteArray} {l : List (ByteArray × Bk)} (h : lookB k l = none) : k ∉ l.map (·.1) := by
  intro hm
  obtain ⟨p, hp, rfl⟩ := List.mem_map.1 hm
  unfold lookB at h
  rw [Option.map_eq_none_iff, List.find?_eq_none] at h
  have := h p hp
  simp at this
theorem look_mem {k : ByteArray} {l : List (ByteArray × Bk)} {b : Bk} (h : lookB k l = some b) : (k, b) ∈ l := by
  unfold lookB at h
  obtain ⟨p, hp, rfl⟩ := Option.map_eq_some_iff.1 h
  have h1 := List.find?_some hp
  have h2 := List.mem_of_find?_eq_some hp
  have : k = p.1 := by simpa using h1
  rw [this]; exact h2
theorem BkOk.later {bu t t' M M' : Int} {b : Bk} (h : BkOk bu t M b) (ht : t ≤ t') (hM : M ≤ M') : BkOk bu t' M' b := ⟨h.l0, h.l1, h.c0, Int.le_trans h.c1 ht, h.d0, Int.le_trans h.d1 hM⟩
theorem fin_ok {M t : Int} {R : RL} {k : ByteArray} {b : Bk} (h : R.ok M) (hb : BkOk R.burst R.time M b) (ht : t = R.time) : (R.fin k b t).1.ok (M + 1) := by
  subst ht
  have hf := fill_ok h.par hb (Int.le_refl _)
  have hset : ∀ c, BkOk R.burst R.time (M + 1) c → ∀ p ∈ setB k c R.bs, BkOk R.burst R.time (M + 1) p.2 := fun c hc p hp => by
    unfold setB at hp
    obtain ⟨q, hq, rfl⟩ := List.mem_map.1 hp
    by_cases hk : k = q.1
    · rw [if_pos hk]; exact hc
    · rw [if_neg hk]; exact (h.bks q hq).later (Int.le_refl _) (by omega)
  have hlen : ∀ c, (setB k c R.bs).length = R.bs.length := fun c => by simp [setB]
  unfold RL.fin
  dsimp only
  have h0 := hf.l0
  have h1 := hf.d0
  have h2 := hf.d1
  have h3 := hf.l1
  have ha := h.a0
  have ha1 := h.a1
  have he := h.e0
  have he1 := h.e1
  split
  · exact ⟨h.par, h.k0, h.k1, h.t0, h.t1, by dsimp only; rw [hlen]; exact h.len, h.asc.keys (setB_keys _ _ _), hset _ ⟨hf.l0, hf.l1, hf.c0, hf.c1, by dsimp only; omega, by dsimp only; omega⟩, ha, by dsimp only; omega, by dsimp only; omega, by dsimp only; omega⟩
  · rename_i hne
    exact ⟨h.par, h.k0, h.k1, h.t0, h.t1, by dsimp only; rw [hlen]; exact h.len, h.asc.keys (setB_keys _ _ _), hset _ ⟨by dsimp only; omega, by dsimp only; omega, hf.c0, hf.c1, by dsimp only; omega, by dsimp only; omega⟩, by dsimp only; omega, by dsimp only; omega, he, by dsimp only; omega⟩
theorem allow_ok {M : Int} {R : RL} (h : R.ok M) (k : ByteArray) (now : Int) : (R.allow k now).1.ok (M + 1) := by
  have hge := clock_ge R now
  have hle := clock_le h now
  have ht0 := h.t0
  have h1 : RL.ok M { R with time := R.clockAt now } := ⟨h.par, h.k0, h.k1, by dsimp only; omega, hle, h.len, h.asc, fun p hp => (h.bks p hp).later hge (Int.le_refl _), h.a0, h.a1, h.e0, h.e1⟩
  have h2 : RL.ok M (RL.room { R with time := R.clockAt now } (R.clockAt now)) := by
    unfold RL.room
    split
    · refine ⟨h1.par, h1.k0, h1.k1, h1.t0, h1.t1, ?_, h1.asc.sublist List.filter_sublist, fun p hp => h1.bks p ((List.mem_filter.1 hp).1), h1.a0, h1.a1, h1.e0, h1.e1⟩
      have := List.length_filter_le (fun p : ByteArray × Bk => !fullB R.burst R.itv p.2 (R.clockAt now)) R.bs
      have := h1.len
      dsimp only [keepB] at *
      omega
    · exact h1
  unfold RL.allow
  dsimp only
  split
  · rename_i b hb
    exact fin_ok h1 (h1.bks _ (look_mem hb)) rfl
  · rename_i hb
    have hnk : k ∉ (RL.room { R with time := R.clockAt now } (R.clockAt now)).bs.map (·.1) := by
      have := look_none hb
      unfold RL.room
      split
      · exact fun hm => this (by
          obtain ⟨p, hp, rfl⟩ := List.mem_map.1 hm
          exact List.mem_map.2 ⟨p, (List.mem_filter.1 hp).1, rfl⟩)
      · exact this
    have hbu : (RL.room { R with time := R.clockAt now } (R.clockAt now)).burst = R.burst := by unfold RL.room; split <;> rfl
    have hti : (RL.room { R with time := R.clockAt now } (R.clockAt now)).time = R.clockAt now := by unfold RL.room; split <;> rfl
    split
    · have := h2.e0
      have := h2.e1
      have := h2.a1
      exact ⟨h2.par, h2.k0, h2.k1, h2.t0, h2.t1, h2.len, h2.asc, fun p hp => (h2.bks p hp).later (Int.le_refl _) (by omega), h2.a0, by dsimp only; omega, by dsimp only; omega, by dsimp only; omega⟩
    · rename_i hroom
      have hp := h.par
      have hM : 0 ≤ M := Int.le_trans h.a0 h.a1
      have hnew : BkOk R.burst (R.clockAt now) M ⟨R.burst, R.clockAt now, 0⟩ := ⟨by have := hp.b0; dsimp only; omega, Int.le_refl _, by dsimp only; omega, Int.le_refl _, Int.le_refl _, hM⟩
      refine fin_ok ⟨h2.par, h2.k0, h2.k1, h2.t0, h2.t1, ?_, insB_asc h2.asc hnk, fun p hp => ?_, h2.a0, h2.a1, h2.e0, h2.e1⟩ ?_ ?_
      · dsimp only
        rw [insB_len]
        omega
      · dsimp only at hp ⊢
        rcases insB_mem.1 hp with rfl | hp
        · rw [hbu, hti]; exact hnew
        · exact h2.bks p hp
      · dsimp only; rw [hbu, hti]; exact hnew
      · exact hti.symm
end Go.Proofs.Ytokadblncmjanaa
