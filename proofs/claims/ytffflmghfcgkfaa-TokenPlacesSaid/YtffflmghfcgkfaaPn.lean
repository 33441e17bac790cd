/- Plain law: two sources on different lines. No program in sight. -/
import Derived.Test.YtffflmghfcgkfaaPm
set_option linter.unusedSimpArgs false
set_option linter.unusedVariables false
namespace Go.Proofs.Ytffflmghfcgkfaa
open Go.RowKit Tk

theorem tw_nl (p : UInt8 → Bool) (hp : p 10 = false) : ∀ (l r : List UInt8), tw p (l ++ 10 :: r) = tw p l
  | [], r => by rw [List.nil_append, tw_cons, if_neg (by simp [hp]), tw_nil]
  | c :: l, r => by rw [List.cons_append, tw_cons, tw_cons, tw_nl p hp l r]
theorem getD_app {l r : List UInt8} {k : Nat} (h : k < l.length) : (l ++ r).getD k 0 = l.getD k 0 := by
  rw [List.getD_eq_getElem?_getD, List.getD_eq_getElem?_getD, List.getElem?_append_left h]
theorem markN_nl (c : UInt8) (l r : List UInt8) : markN ((c :: l) ++ 10 :: r) = markN (c :: l) := by
  cases l with
  | nil =>
    unfold markN
    have h1 : marks2.contains (([c] ++ 10 :: r).take 2) = false := by simp [marks2]
    have h2 : marks2.contains (([c] : List UInt8).take 2) = false := by simp [marks2]
    rw [h1, h2]
    rfl
  | cons d l => rfl
theorem oneR_nl {l : List UInt8} (r : List UInt8) (h : 0 < l.length) : oneR (l ++ 10 :: r) = oneR l ∨ (oneR l = .err 5 0 ∧ ∃ x, oneR (l ++ 10 :: r) = .err 9 x) := by
  cases l with
  | nil => simp at h
  | cons c l =>
    have hd : ((c :: l) ++ 10 :: r).getD 0 0 = (c :: l).getD 0 0 := rfl
    unfold oneR
    rw [hd]
    by_cases h1 : letB (bi ((c :: l).getD 0 0)) = true
    · left
      rw [if_pos h1, if_pos h1]
      unfold nameR
      rw [tw_nl nmB rfl]
    rw [if_neg h1, if_neg h1]
    by_cases h2 : digB (bi ((c :: l).getD 0 0)) = true
    · left
      rw [if_pos h2, if_pos h2]
      unfold numR
      rw [tw_nl dgB rfl, hd]
    rw [if_neg h2, if_neg h2]
    by_cases h3 : bi ((c :: l).getD 0 0) = 34
    · rw [if_pos h3, if_pos h3]
      unfold textR
      have e1 : ((c :: l) ++ 10 :: r).drop 1 = l ++ 10 :: r := rfl
      have e2 : (c :: l).drop 1 = l := rfl
      rw [e1, e2, tw_nl ptB rfl]
      by_cases h4 : l.length ≤ tw ptB l
      · right
        have h5 := tw_le ptB l
        rw [if_pos h4, if_neg (by simp; omega)]
        refine ⟨rfl, 1 + tw ptB l, ?_⟩
        have h6 : (l ++ 10 :: r).getD (tw ptB l) 0 = 10 := by
          rw [show tw ptB l = l.length by omega]; simp
        rw [h6, if_pos (by decide)]
      · left
        rw [if_neg h4, if_neg (by simp; omega), getD_app (by omega)]
    · left
      rw [if_neg h3, if_neg h3]
      unfold markR
      rw [markN_nl]
theorem skipL_nl : ∀ (c : Bool) (l r : List UInt8), (l.length ≤ Tk.skipL c l → Tk.skipL c (l ++ 10 :: r) = l.length + 1 + Tk.skipL false r) ∧ (¬ l.length ≤ Tk.skipL c l → Tk.skipL c (l ++ 10 :: r) = Tk.skipL c l)
  | c, [], r => by
    refine ⟨fun _ => ?_, fun h => absurd (Nat.zero_le _) h⟩
    rw [List.nil_append, Tk.skipL, if_pos (by decide)]
    simp; omega
  | c, b :: l, r => by
    have i1 := skipL_nl false l r
    have i2 := skipL_nl true l r
    have i3 := skipL_nl c l r
    rw [List.cons_append, Tk.skipL, Tk.skipL]
    split
    · refine ⟨fun h => ?_, fun h => ?_⟩
      · rw [i1.1 (by simp at h; omega)]; simp; omega
      · rw [i1.2 (by simp at h ⊢; omega)]
    · split
      · refine ⟨fun h => ?_, fun h => ?_⟩
        · rw [i2.1 (by simp at h; omega)]; simp; omega
        · rw [i2.2 (by simp at h ⊢; omega)]
      · split
        · refine ⟨fun h => ?_, fun h => ?_⟩
          · rw [i3.1 (by simp at h; omega)]; simp; omega
          · rw [i3.2 (by simp at h ⊢; omega)]
        · exact ⟨fun h => by simp at h, fun _ => rfl⟩
theorem scanA_skip {x : List UInt8} {j : Nat} (o : Nat) (hj : j ≤ x.length) (h : Tk.skipL false x = j + Tk.skipL false (x.drop j)) : scanA o x = scanA (o + j) (x.drop j) := by
  rw [scanA_eq o, scanA_eq (o + j), h]
  by_cases hs : x.length ≤ j + Tk.skipL false (x.drop j)
  · rw [if_pos hs, if_pos (by rw [List.length_drop]; omega), List.length_drop, show o + j + (x.length - j) = o + x.length by omega]
  · rw [if_neg hs, if_neg (by rw [List.length_drop]; omega)]
    simp only [List.drop_drop, Nat.add_assoc]
theorem oneR_err0 {l : List UInt8} {c : Int} {x : Nat} (h : oneR l = .err c x) : ¬ c = 0 := by
  have := oneR_err _ _ _ h
  simpa using this
/-- two sources on different lines -/
theorem join_scan (r : List UInt8) : ∀ (n : Nat) (l : List UInt8) (o : Nat), l.length ≤ n →
    (∀ ts, scanA o l = .ok ts → ∃ us e, ts = us ++ [⟨0, [], e⟩] ∧ scanA o (l ++ 10 :: r) = LR.app us (scanA (o + l.length + 1) r)) ∧
    (∀ c x, scanA o l = .err c x → ¬ c = 0 ∧ x ≤ o + l.length ∧ ((c = 5 ∧ ∃ x', scanA o (l ++ 10 :: r) = .err 9 x') ∨ scanA o (l ++ 10 :: r) = .err c x))
  | n, l, o, hn => by
    have hk := skipL_nl false l r
    have hle := Tk.skipL_le false l
    rw [scanA_eq o l]
    by_cases hs : l.length ≤ Tk.skipL false l
    · rw [if_pos hs]
      refine ⟨fun ts h => ?_, fun c x h => by cases h⟩
      injection h with h
      refine ⟨[], o + l.length, h.symm, ?_⟩
      have h1 := hk.1 hs
      have hd : (l ++ 10 :: r).drop (l.length + 1) = r := by
        rw [← List.drop_drop, List.drop_left]; rfl
      rw [scanA_skip (j := l.length + 1) o (by simp) (by rw [h1, hd]), hd, ← Nat.add_assoc]
      generalize scanA (o + l.length + 1) r = q
      cases q <;> rfl
    · rw [if_neg hs]
      have h1 := hk.2 hs
      have hdrop : (l ++ 10 :: r).drop (Tk.skipL false l) = l.drop (Tk.skipL false l) ++ 10 :: r := by rw [List.drop_append_of_le_length (by omega)]
      have hpos : 0 < (l.drop (Tk.skipL false l)).length := by rw [List.length_drop]; omega
      have key := scanA_eq o (l ++ 10 :: r)
      rw [h1, if_neg (by simp; omega), hdrop] at key
      have one := oneR_nl r hpos
      cases ho : oneR (l.drop (Tk.skipL false l)) with
      | err c0 x0 =>
        refine ⟨fun ts h => (by cases h), fun c x h => ?_⟩
        injection h with e1 e2
        subst e1 e2
        have hx := oneR_off _ _ _ ho
        rw [List.length_drop] at hx
        refine ⟨oneR_err0 ho, by omega, ?_⟩
        rcases one with one | ⟨one, x', one'⟩
        · right; rw [key, one, ho]
        · left
          rw [ho] at one
          injection one with e3 e4
          exact ⟨e3, o + Tk.skipL false l + x', by rw [key, one']⟩
      | ok kd k =>
        obtain ⟨k1, k2⟩ := oneR_ok _ _ _ hpos ho
        rw [List.length_drop] at k2
        have one' : oneR (l.drop (Tk.skipL false l) ++ 10 :: r) = .ok kd k := by
          rcases one with one | ⟨one, _⟩
          · rw [one, ho]
          · rw [ho] at one; cases one
        rw [one'] at key
        have hd2 : (l ++ 10 :: r).drop (Tk.skipL false l + k) = l.drop (Tk.skipL false l + k) ++ 10 :: r := by rw [List.drop_append_of_le_length (by omega)]
        have htx : textL kd k (l.drop (Tk.skipL false l) ++ 10 :: r) = textL kd k (l.drop (Tk.skipL false l)) := by
          unfold textL
          split
          · rw [List.drop_append_of_le_length (by omega), List.take_append_of_le_length (by rw [List.length_drop, List.length_drop]; omega)]
          · rw [List.take_append_of_le_length (by rw [List.length_drop]; omega)]
        simp only at key
        rw [hd2, htx] at key
        match n, hn with
        | 0, hn => exact absurd hn (by omega)
        | n + 1, hn =>
          have ih := join_scan r n (l.drop (Tk.skipL false l + k)) (o + Tk.skipL false l + k) (by rw [List.length_drop]; omega)
          have hl : o + Tk.skipL false l + k + (l.drop (Tk.skipL false l + k)).length = o + l.length := by rw [List.length_drop]; omega
          rw [hl] at ih
          simp only
          generalize scanA (o + Tk.skipL false l + k) (l.drop (Tk.skipL false l + k)) = q at ih
          cases q with
          | err c x =>
            refine ⟨fun ts h => (by cases h), fun c' x' h => ?_⟩
            injection h with e1 e2
            subst e1 e2
            obtain ⟨g0, g1, g2⟩ := ih.2 c x rfl
            refine ⟨g0, g1, ?_⟩
            rcases g2 with ⟨g2, x', g3⟩ | g2
            · exact .inl ⟨g2, x', by rw [key, g3]; rfl⟩
            · exact .inr (by rw [key, g2]; rfl)
          | ok ts =>
            refine ⟨fun ts' h => ?_, fun c x h => by cases h⟩
            injection h with h
            obtain ⟨us, e, g1, g2⟩ := ih.1 ts rfl
            refine ⟨⟨kd, textL kd k (l.drop (Tk.skipL false l)), o + Tk.skipL false l⟩ :: us, e, ?_, ?_⟩
            · rw [← h, g1]; rfl
            · rw [key, g2, LR.app_app]; rfl
def LR.shift (d : Nat) : LR → LR
  | .err c x => .err c (d + x)
  | .ok ts => .ok (ts.map fun t => ⟨t.kind, t.text, d + t.off⟩)
theorem shift_app (d : Nat) (us : List LTok) (r : LR) : LR.shift d (LR.app us r) = LR.app (us.map fun t => ⟨t.kind, t.text, d + t.off⟩) (LR.shift d r) := by cases r <;> simp [LR.app, LR.shift]
theorem scanA_shift (d : Nat) : ∀ (n : Nat) (l : List UInt8) (o : Nat), l.length ≤ n → scanA (d + o) l = LR.shift d (scanA o l)
  | n, l, o, hn => by
    have hle := Tk.skipL_le false l
    rw [scanA_eq (d + o) l, scanA_eq o l]
    by_cases hs : l.length ≤ Tk.skipL false l
    · rw [if_pos hs, if_pos hs]; simp [LR.shift, Nat.add_assoc]
    · rw [if_neg hs, if_neg hs]
      have hpos : 0 < (l.drop (Tk.skipL false l)).length := by rw [List.length_drop]; omega
      cases ho : oneR (l.drop (Tk.skipL false l)) with
      | err c x => simp [LR.shift, Nat.add_assoc]
      | ok kd k =>
        obtain ⟨k1, k2⟩ := oneR_ok _ _ _ hpos ho
        match n, hn with
        | 0, hn => exact absurd hn (by omega)
        | n + 1, hn =>
          simp only
          rw [shift_app, show d + o + Tk.skipL false l + k = d + (o + Tk.skipL false l + k) by omega, scanA_shift d n _ _ (by rw [List.length_drop]; omega)]
          simp [Nat.add_assoc]
theorem fold_shift (d : Int) : ∀ (l : List UInt8) (p q : Int), l.foldl aft (d + p, q) = (d + (l.foldl aft (p, q)).1, (l.foldl aft (p, q)).2)
  | [], _, _ => rfl
  | c :: l, p, q => by
    simp only [List.foldl_cons, aft]
    split
    · rw [Int.add_assoc, fold_shift d l]
    · exact fold_shift d l _ _
theorem loc_left {a b : List UInt8} {k : Nat} (h : k ≤ a.length) : loc (a ++ b) k = loc a k := by
  unfold loc; rw [List.take_append_of_le_length h]
theorem loc_right (a b : List UInt8) (j : Nat) : loc (a ++ 10 :: b) (a.length + 1 + j) = ((loc a a.length).1 + (loc b j).1, (loc b j).2) := by
  unfold loc
  have e : (a ++ 10 :: b).take (a.length + 1 + j) = a ++ 10 :: b.take j := by
    rw [show a.length + 1 + j = a.length + (j + 1) by omega, List.take_length_add_append, List.take_succ_cons]
  rw [e, List.foldl_append, List.foldl_cons, List.take_of_length_le (Nat.le_refl _)]
  have : aft (a.foldl aft (1, 1)) 10 = ((a.foldl aft (1, 1)).1 + 1, 1) := by unfold aft; rw [if_pos (by decide)]
  rw [this, fold_shift]
theorem like_map (s s' : List UInt8) (f : LTok → LTok) (hf : ∀ t, (f t).kind = t.kind ∧ (f t).text = t.text) : ∀ us : List LTok, sameB ((us.map f).map (LTok.at s)) (us.map (LTok.at s')) = true
  | [] => rfl
  | t :: us => by
    simp only [List.map_cons, sameB, like_map s s' f hf us, Bool.and_true, Tok.like, LTok.at, (hf t).1, (hf t).2, decide_true, Bool.and_self]
/-- two sources on different lines, as Scan has them -/
theorem join_law {a b s : ByteArray} (hs : s.data.toList = a.data.toList ++ 10 :: b.data.toList) (hz : s.size ≤ 65536) :
    (∀ c p, scanS a = .err c p → ¬ c = 0 ∧ ((c = 5 ∧ ∃ p', scanS s = .err 9 p') ∨ scanS s = .err c p)) ∧
    (∀ ts, scanS a = .ok ts → ∃ us e, ts = us ++ [⟨0, ⟨#[]⟩, e⟩] ∧
      (∀ c p, scanS b = .err c p → ¬ c = 0 ∧ scanS s = .err c ((loc a.data.toList a.size).1 + p.1, p.2)) ∧
      (∀ tb, scanS b = .ok tb → ∃ us' tb', scanS s = .ok (us' ++ tb') ∧ us'.length = us.length ∧ tb'.length = tb.length ∧ 0 < tb.length ∧ sameB us' us = true ∧ sameB tb' tb = true)) := by
  have hlen : s.size = a.size + 1 + b.size := by
    have := congrArg List.length hs
    rw [List.length_append, List.length_cons, sz, sz, sz] at this
    omega
  rw [scanS_L a (by omega), scanS_L b (by omega), scanS_L s hz, hs]
  have hj := join_scan b.data.toList _ a.data.toList 0 (Nat.le_refl _)
  have hb := join_scan [] _ b.data.toList 0 (Nat.le_refl _)
  rw [Nat.zero_add, sz] at hj
  have hsh := scanA_shift (a.size + 1) _ b.data.toList 0 (Nat.le_refl _)
  rw [Nat.add_zero] at hsh
  rw [hsh] at hj
  constructor
  · intro c p h
    cases hq : scanA 0 a.data.toList with
    | ok ts => rw [hq] at h; cases h
    | err c0 x =>
      rw [hq, toSR] at h
      injection h with e1 e2
      subst e1 e2
      obtain ⟨g0, g1, g2⟩ := hj.2 _ _ hq
      refine ⟨g0, ?_⟩
      rcases g2 with ⟨g2, x', g3⟩ | g2
      · exact .inl ⟨g2, _, by rw [g3]; rfl⟩
      · right; rw [g2, toSR, loc_left (by rw [sz]; exact g1)]
  · intro ts h
    cases hq : scanA 0 a.data.toList with
    | err c x => rw [hq] at h; cases h
    | ok us0 =>
      rw [hq, toSR] at h
      injection h with h
      obtain ⟨us, e, g1, g2⟩ := hj.1 _ hq
      refine ⟨us.map (LTok.at a.data.toList), loc a.data.toList e, ?_, ?_, ?_⟩
      · rw [← h, g1, List.map_append]; rfl
      · intro c p hbe
        cases hr : scanA 0 b.data.toList with
        | ok tb => rw [hr] at hbe; cases hbe
        | err c0 x =>
          rw [hr, toSR] at hbe
          injection hbe with e1 e2
          subst e1 e2
          refine ⟨(hb.2 _ _ hr).1, ?_⟩
          rw [g2, hr]
          simp only [LR.shift, LR.app, toSR]
          rw [show a.size + 1 + x = a.data.toList.length + 1 + x by rw [sz], loc_right, sz]
      · intro tb hbo
        cases hr : scanA 0 b.data.toList with
        | err c x => rw [hr] at hbo; cases hbo
        | ok tb0 =>
          rw [hr, toSR] at hbo
          injection hbo with hbo
          subst hbo
          obtain ⟨vs, e', g3, _⟩ := hb.1 _ hr
          refine ⟨us.map (LTok.at (a.data.toList ++ 10 :: b.data.toList)), (tb0.map fun t => ⟨t.kind, t.text, a.size + 1 + t.off⟩).map (LTok.at (a.data.toList ++ 10 :: b.data.toList)), ?_, by simp, by simp, ?_, ?_, ?_⟩
          · rw [g2, hr]; simp only [LR.shift, LR.app, toSR, List.map_append]
          · rw [g3]; simp
          · have := like_map (a.data.toList ++ 10 :: b.data.toList) a.data.toList id (fun t => ⟨rfl, rfl⟩) us
            simpa using this
          · exact like_map _ _ (fun t => ⟨t.kind, t.text, a.size + 1 + t.off⟩) (fun t => ⟨rfl, rfl⟩) tb0
end Go.Proofs.Ytffflmghfcgkfaa
