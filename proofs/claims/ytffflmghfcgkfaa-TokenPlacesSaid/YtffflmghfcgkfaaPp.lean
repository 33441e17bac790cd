/- Plain law: each token of a source stands at its place. No program in sight. -/
import Derived.Test.YtffflmghfcgkfaaPn
set_option linter.unusedSimpArgs false
set_option linter.unusedVariables false
namespace Go.Proofs.Ytffflmghfcgkfaa
open Go.RowKit Tk

theorem tw_take (p : UInt8 → Bool) : ∀ l : List UInt8, (l.take (tw p l)).all p = true
  | [] => rfl
  | c :: l => by
    rw [tw_cons]
    split
    · rw [List.take_succ_cons, List.all_cons, tw_take p l]; simp [*]
    · rfl
theorem getD_take {l : List UInt8} {n : Nat} (h : 0 < n) : (l.take n).getD 0 0 = l.getD 0 0 := by
  cases l with
  | nil => simp
  | cons c l => cases n with
    | zero => omega
    | succ n => rfl
theorem empty_take {l : List UInt8} {n : Nat} (h : 0 < n) (hl : n ≤ l.length) : (l.take n).isEmpty = false := by
  cases l with
  | nil => simp at hl; omega
  | cons c l => cases n with
    | zero => omega
    | succ n => rfl
theorem bi_inj {a b : UInt8} (h : bi a = bi b) : a = b := by
  unfold bi at h
  exact UInt8.toNat_inj.1 (by omega)
/-- what was found is the text of a token -/
theorem one_tok {l : List UInt8} {kd : Int} {n : Nat} (hl : 0 < l.length) (h : oneR l = .ok kd n) : ¬ kd = 0 ∧ checkB kd (textL kd n l) = true ∧ l.take n = srcL kd (textL kd n l) ∧ (srcL kd (textL kd n l)).length = n ∧ n ≤ l.length ∧ (textL kd n l).length ≤ n := by
  obtain ⟨n0, n1⟩ := oneR_ok _ _ _ hl h
  unfold oneR at h
  by_cases h1 : letB (bi (l.getD 0 0)) = true
  · rw [if_pos h1] at h
    unfold nameR at h
    split at h
    · cases h
    · rename_i h2
      injection h with e1 e2
      subst e1
      have hd : digB (bi (l.getD 0 0)) = false := by
        have : (97 ≤ bi (l.getD 0 0) ∧ bi (l.getD 0 0) ≤ 122) ∨ (65 ≤ bi (l.getD 0 0) ∧ bi (l.getD 0 0) ≤ 90) ∨ bi (l.getD 0 0) = 95 := by simpa [letB, or_assoc] using h1
        unfold digB; rw [decide_eq_false_iff_not]; omega
      have et : textL 1 n l = l.take n := rfl
      have es : ∀ x, srcL 1 x = x := fun x => rfl
      rw [et, es]
      refine ⟨by decide, ?_, rfl, by rw [List.length_take]; omega, n1, by rw [List.length_take]; omega⟩
      show nameB (l.take n) = true
      unfold nameB
      rw [empty_take n0 n1, getD_take n0]
      have : dgB (l.getD 0 0) = false := hd
      rw [this, ← e2, tw_take]
      simp
      omega
  rw [if_neg h1] at h
  by_cases h2 : digB (bi (l.getD 0 0)) = true
  · rw [if_pos h2] at h
    unfold numR at h
    split at h
    · cases h
    · split at h
      · cases h
      · rename_i h3 h4
        injection h with e1 e2
        subst e1
        have et : textL 2 n l = l.take n := rfl
        have es : ∀ x, srcL 2 x = x := fun x => rfl
        rw [et, es]
        refine ⟨by decide, ?_, rfl, by rw [List.length_take]; omega, n1, by rw [List.length_take]; omega⟩
        show numB (l.take n) = true
        unfold numB
        rw [empty_take n0 n1, getD_take n0]
        have hlen : (l.take n).length = n := by rw [List.length_take]; omega
        rw [hlen]
        have hall : (l.take n).all dgB = true := by rw [← e2]; exact tw_take dgB l
        rw [hall]
        rw [e2] at h3 h4
        simp only [Bool.not_false, Bool.true_and, Bool.and_true, Bool.and_eq_true, Bool.or_eq_true, Bool.not_eq_true', decide_eq_true_eq, decide_eq_false_iff_not]
        refine ⟨by omega, ?_⟩
        by_cases hn : n ≤ 1
        · exact .inl hn
        · exact .inr fun h5 => h4 ⟨by omega, h5⟩
  rw [if_neg h2] at h
  by_cases h3 : bi (l.getD 0 0) = 34
  · rw [if_pos h3] at h
    unfold textR at h
    split at h
    · cases h
    · split at h
      · cases h
      · split at h
        · cases h
        · rename_i h4 h5 h6
          injection h with e1 e2
          subst e1
          have h5' : bi ((l.drop 1).getD (tw ptB (l.drop 1)) 0) = 34 := by simpa using h5
          cases l with
          | nil => simp at hl
          | cons c l =>
            have ed : (c :: l).drop 1 = l := rfl
            rw [ed] at h4 h5' h6 e2
            have b34 : bi 34 = 34 := by decide
            have hc : c = 34 := bi_inj (by rw [b34]; simpa using h3)
            have et : textL 3 n (c :: l) = l.take (tw ptB l) := by
              unfold textL; rw [if_pos rfl, ed]; congr 1; omega
            have hx : l[tw ptB l]'(by omega) = 34 := by
              have : l.getD (tw ptB l) 0 = l[tw ptB l]'(by omega) := by rw [List.getD_eq_getElem?_getD, List.getElem?_eq_getElem (by omega)]; rfl
              rw [this] at h5'
              exact bi_inj (by rw [b34]; simpa using h5')
            have hlen : (l.take (tw ptB l)).length = tw ptB l := by rw [List.length_take]; omega
            rw [et]
            refine ⟨by decide, ?_, ?_, ?_, n1, by omega⟩
            · show quoB (l.take (tw ptB l)) = true
              unfold quoB
              rw [tw_take, hlen]
              simp; omega
            · show _ = 34 :: (l.take (tw ptB l) ++ [34])
              rw [hc, ← e2, show tw ptB l + 2 = (tw ptB l + 1) + 1 by omega, List.take_succ_cons, List.take_succ_eq_append_getElem (by omega), hx]
            · show (34 :: (l.take (tw ptB l) ++ [34])).length = n
              simp only [List.length_cons, List.length_append, hlen, List.length_nil]
              omega
  rw [if_neg h3] at h
  unfold markR at h
  split at h
  · cases h
  · rename_i h4
    injection h with e1 e2
    subst e1
    have et : textL 4 n l = l.take n := rfl
    have es : ∀ x, srcL 4 x = x := fun x => rfl
    rw [et, es]
    have hlen : (l.take n).length = n := by rw [List.length_take]; omega
    refine ⟨by decide, ?_, rfl, by omega, n1, by omega⟩
    show inWords (l.take n) markL = true
    rw [← mark_law, empty_take n0 n1]
    have hm : markN (l.take n) = n := by
      unfold markN at e2
      by_cases h5 : marks2.contains (l.take 2) = true
      · rw [if_pos h5] at e2
        subst e2
        unfold markN
        rw [List.take_take, Nat.min_self, if_pos h5]
      · rw [if_neg h5] at e2
        cases l with
        | nil => simp at hl
        | cons c l =>
          by_cases h6 : marks1.contains c = true
          · simp only [h6, if_true] at e2
            subst e2
            unfold markN
            have h7 : marks2.contains (((c :: l).take 1).take 2) = false := by simp [marks2]
            rw [h7]
            simp only [Bool.false_eq_true, if_false, List.take_succ_cons, List.take_zero, h6, if_true]
          · rw [if_neg (by simpa using h6)] at e2
            omega
    rw [hm, List.take_take, Nat.min_self]
    simp

/-- the tokens of a source from o on stand where they are said to stand -/
def Placed (src : List UInt8) : Nat → List LTok → Prop
  | _, [] => False
  | o, t :: ts => o ≤ t.off ∧ ((ts = [] ∧ t.kind = 0 ∧ t.text = [] ∧ t.off = src.length) ∨
      (¬ ts = [] ∧ ¬ t.kind = 0 ∧ checkB t.kind t.text = true ∧ (src.drop t.off).take (srcL t.kind t.text).length = srcL t.kind t.text ∧ t.off + (srcL t.kind t.text).length ≤ src.length ∧ Placed src (t.off + (srcL t.kind t.text).length) ts))
theorem Placed.low {src : List UInt8} {o o' : Nat} {ts : List LTok} (h : Placed src o ts) (ho : o' ≤ o) : Placed src o' ts := by
  cases ts with
  | nil => exact h
  | cons t ts => exact ⟨by have := h.1; omega, h.2⟩
theorem Placed.ne {src : List UInt8} {o : Nat} {ts : List LTok} (h : Placed src o ts) : ¬ ts = [] := by
  cases ts with
  | nil => exact h.elim
  | cons => simp
theorem place_scan (src : List UInt8) : ∀ (n o : Nat) (ts : List LTok), (src.drop o).length ≤ n → o ≤ src.length → scanA o (src.drop o) = .ok ts → Placed src o ts
  | n, o, ts, hn, ho, h => by
    have hle := Tk.skipL_le false (src.drop o)
    have hlen : (src.drop o).length = src.length - o := List.length_drop
    rw [scanA_eq] at h
    by_cases hs : (src.drop o).length ≤ Tk.skipL false (src.drop o)
    · rw [if_pos hs] at h
      injection h with h
      subst h
      exact ⟨by simp only; omega, .inl ⟨rfl, rfl, rfl, by simp only; omega⟩⟩
    · rw [if_neg hs, List.drop_drop] at h
      have hpos : 0 < (src.drop (o + Tk.skipL false (src.drop o))).length := by rw [List.length_drop]; omega
      cases hone : oneR (src.drop (o + Tk.skipL false (src.drop o))) with
      | err c x => rw [hone] at h; cases h
      | ok kd k =>
        rw [hone] at h
        obtain ⟨g1, g2, g3, g4, g5, g6⟩ := one_tok hpos hone
        rw [List.length_drop] at g5
        simp only at h
        rw [List.drop_drop, ← Nat.add_assoc] at h
        cases hr : scanA (o + Tk.skipL false (src.drop o) + k) (src.drop (o + Tk.skipL false (src.drop o) + k)) with
        | err c x => rw [hr] at h; cases h
        | ok us =>
          rw [hr] at h
          injection h with h
          subst h
          have hk := (oneR_ok _ _ _ hpos hone).1
          match n, hn with
          | 0, hn => exact absurd hn (by omega)
          | n + 1, hn =>
            have ih := place_scan src n _ us (by rw [List.length_drop]; omega) (by omega) hr
            refine ⟨by simp only; omega, .inr ⟨ih.ne, g1, g2, ?_, ?_, ?_⟩⟩
            · simp only; rw [g4, g3]
            · simp only; rw [g4]; omega
            · simp only; rw [g4]; exact ih
/-- positions ascend -/
def Before (p q : Int × Int) : Prop := p.1 < q.1 ∨ (p.1 = q.1 ∧ p.2 < q.2)
theorem Before.trans {p q r : Int × Int} (h : Before p q) (k : Before q r) : Before p r := by unfold Before at *; omega
theorem before_aft (p : Int × Int) (c : UInt8) : Before p (aft p c) := by
  by_cases h : bi c = 10
  · left; simp only [aft, if_pos h]; omega
  · have e : aft p c = (p.1, p.2 + 1) := if_neg h
    rw [e]; exact .inr ⟨rfl, by show p.2 < p.2 + 1; omega⟩
theorem loc_before (l : List UInt8) : ∀ (n i : Nat), i + (n + 1) ≤ l.length → Before (loc l i) (loc l (i + (n + 1)))
  | 0, i, h => by rw [loc_succ l i (by omega)]; exact before_aft _ _
  | n + 1, i, h => by
    have := loc_before l n i (by omega)
    rw [show i + (n + 1 + 1) = (i + (n + 1)) + 1 by omega, loc_succ l _ (by omega)]
    exact this.trans (before_aft _ _)
theorem loc_ne {l : List UInt8} {i j : Nat} (h : i < j) (hj : j ≤ l.length) : Before (loc l i) (loc l j) := by
  have := loc_before l (j - i - 1) i (by omega)
  rwa [show i + (j - i - 1 + 1) = j by omega] at this
end Go.Proofs.Ytffflmghfcgkfaa
