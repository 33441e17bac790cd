/- Plain law: what Scan finds, on lists of bytes. No program in sight. -/
import Derived.Test.YtffflmghfcgkfaaTx
set_option linter.unusedSimpArgs false
set_option linter.unusedVariables false
namespace Go.Proofs.Ytffflmghfcgkfaa
open Go.RowKit Tk

structure LTok where
  kind : Int
  text : List UInt8
  off : Nat
inductive LR where
  | err (c : Int) (off : Nat)
  | ok (ts : List LTok)
def LR.app (us : List LTok) : LR → LR
  | .err c o => .err c o
  | .ok ts => .ok (us ++ ts)
theorem LR.app_app (a b : List LTok) (r : LR) : LR.app a (LR.app b r) = LR.app (a ++ b) r := by cases r <;> simp [LR.app]
def textL (kd : Int) (n : Nat) (l : List UInt8) : List UInt8 := if kd = 3 then (l.drop 1).take (n - 2) else l.take n
def scanL : Nat → Nat → List UInt8 → LR
  | 0, _, _ => .ok []
  | f + 1, o, l =>
    if l.length ≤ skipL false l then .ok [⟨0, [], o + l.length⟩]
    else match oneR (l.drop (skipL false l)) with
      | .err c x => .err c (o + skipL false l + x)
      | .ok kd n => LR.app [⟨kd, textL kd n (l.drop (skipL false l)), o + skipL false l⟩] (scanL f (o + skipL false l + n) (l.drop (skipL false l + n)))
def LTok.at (src : List UInt8) (t : LTok) : Tok := ⟨t.kind, ⟨t.text.toArray⟩, loc src t.off⟩
def toSR (src : List UInt8) : LR → SR
  | .err c o => .err c (loc src o)
  | .ok ts => .ok (ts.map (LTok.at src))
theorem toSR_app (src : List UInt8) (us : List LTok) (r : LR) : toSR src (LR.app us r) = SR.add (us.map (LTok.at src)) (toSR src r) := by cases r <;> simp [LR.app, toSR, SR.add]
theorem extract_list (s : ByteArray) (a b : Nat) (h : b ≤ s.size) : (s.extract a b).data.toList = (s.data.toList.drop a).take (b - a) := by
  simp [ByteArray.data_extract, Array.toList_extract, List.extract, Nat.min_eq_left h]
theorem tokT_list (s : ByteArray) (k : Nat) (kd : Int) (n : Nat) (h : k + n ≤ s.size) (h2 : kd = 3 → 2 ≤ n) : tokT s k kd n = ⟨(textL kd n (s.data.toList.drop k)).toArray⟩ := by
  apply ba_eq
  unfold tokT textL
  split
  · have := h2 (by assumption)
    rw [extract_list _ _ _ (by omega), List.drop_drop]
    congr 1
    omega
  · rw [extract_list _ _ _ (by omega)]
    congr 1
    omega
theorem scanF_L (s : ByteArray) : ∀ (f k : Nat), k ≤ s.size → scanF s f k = toSR s.data.toList (scanL f k (s.data.toList.drop k))
  | 0, k, _ => rfl
  | f + 1, k, hk => by
    have hlen : (s.data.toList.drop k).length = s.size - k := by rw [List.length_drop, sz]
    have hle := Tk.skipL_le false (s.data.toList.drop k)
    rw [scanF, scanL]
    by_cases h : s.size ≤ k + Tk.skipL false (s.data.toList.drop k)
    · rw [if_pos h, if_pos (by omega), toSR, hlen, show k + (s.size - k) = s.size by omega]
      rfl
    · rw [if_neg h, if_neg (by omega), List.drop_drop]
      cases ho : oneR (s.data.toList.drop (k + Tk.skipL false (s.data.toList.drop k))) with
      | err c x => rfl
      | ok kd n =>
        have hlen2 : (s.data.toList.drop (k + Tk.skipL false (s.data.toList.drop k))).length = s.size - (k + Tk.skipL false (s.data.toList.drop k)) := by rw [List.length_drop, sz]
        obtain ⟨h1, h2⟩ := oneR_ok _ _ _ (by omega) ho
        have h3 : kd = 3 → 2 ≤ n := oneR_3 _ _ _ ho
        simp only
        rw [toSR_app, scanF_L s f _ (by omega), tokT_list _ _ _ _ (by omega) h3]
        simp only [List.drop_drop, Nat.add_assoc]
        rfl
/-- the fuel does not matter -/
theorem scanL_fuel : ∀ (f g o : Nat) (l : List UInt8), l.length < f → l.length < g → scanL f o l = scanL g o l
  | 0, _, _, _, h, _ => absurd h (by omega)
  | _, 0, _, _, _, h => absurd h (by omega)
  | f + 1, g + 1, o, l, h, h' => by
    rw [scanL, scanL]
    by_cases hs : l.length ≤ Tk.skipL false l
    · rw [if_pos hs, if_pos hs]
    · rw [if_neg hs, if_neg hs]
      cases ho : oneR (l.drop (Tk.skipL false l)) with
      | err c x => rfl
      | ok kd n =>
        have h1 := (oneR_ok _ _ _ (by rw [List.length_drop]; omega) ho).1
        simp only
        rw [scanL_fuel f g _ _ (by rw [List.length_drop]; omega) (by rw [List.length_drop]; omega)]
def scanA (o : Nat) (l : List UInt8) : LR := scanL (l.length + 1) o l
theorem scanA_eq (o : Nat) (l : List UInt8) : scanA o l =
    if l.length ≤ Tk.skipL false l then .ok [⟨0, [], o + l.length⟩]
    else match oneR (l.drop (Tk.skipL false l)) with
      | .err c x => .err c (o + Tk.skipL false l + x)
      | .ok kd n => LR.app [⟨kd, textL kd n (l.drop (Tk.skipL false l)), o + Tk.skipL false l⟩] (scanA (o + Tk.skipL false l + n) (l.drop (Tk.skipL false l + n))) := by
  unfold scanA
  rw [scanL]
  by_cases hs : l.length ≤ Tk.skipL false l
  · rw [if_pos hs, if_pos hs]
  · rw [if_neg hs, if_neg hs]
    cases ho : oneR (l.drop (Tk.skipL false l)) with
    | err c x => rfl
    | ok kd n =>
      have h1 := (oneR_ok _ _ _ (by rw [List.length_drop]; omega) ho).1
      simp only
      rw [scanL_fuel l.length ((l.drop (Tk.skipL false l + n)).length + 1) _ _ (by rw [List.length_drop]; omega) (by omega)]
theorem scanS_L (s : ByteArray) (h : s.size ≤ 65536) : scanS s = toSR s.data.toList (scanA 0 s.data.toList) := by
  unfold scanS scanA
  rw [if_neg (by omega), scanF_L s _ 0 (by omega), sz]
  rfl

/-! ### one token, behind which nothing or a blank stands -/
def Sep (r : List UInt8) : Prop := r = [] ∨ ∃ c r', r = c :: r' ∧ (c = 32 ∨ c = 9 ∨ c = 10 ∨ c = 35)
theorem tw_app {p : UInt8 → Bool} {l r : List UInt8} (h : l.all p = true) (hr : r = [] ∨ ∃ c r', r = c :: r' ∧ p c = false) : tw p (l ++ r) = l.length := by
  unfold tw
  rw [List.all_eq_true] at h
  rw [List.takeWhile_append_of_pos h]
  rcases hr with rfl | ⟨c, r', rfl, hc⟩
  · simp
  · rw [List.takeWhile_cons_of_neg (by simp [hc])]; simp
theorem Sep.no {r : List UInt8} (h : Sep r) {p : UInt8 → Bool} (h1 : p 32 = false) (h2 : p 9 = false) (h3 : p 10 = false) (h4 : p 35 = false) : r = [] ∨ ∃ c r', r = c :: r' ∧ p c = false := by
  rcases h with h | ⟨c, r', h, rfl | rfl | rfl | rfl⟩
  · exact .inl h
  all_goals exact .inr ⟨_, _, h, by assumption⟩
theorem skip0 {c : UInt8} {l : List UInt8} (h1 : ¬ bi c = 10) (h2 : ¬ bi c = 35) (h3 : ¬ bi c = 32) (h4 : ¬ bi c = 9) : Tk.skipL false (c :: l) = 0 := by
  unfold Tk.skipL
  rw [if_neg h1, if_neg h2, if_neg (by simp [h3, h4])]
/-- a text of a token, and what follows it -/
def srcL (kd : Int) (l : List UInt8) : List UInt8 := if kd = 3 then 34 :: (l ++ [34]) else l
theorem tok_one {kd : Int} {l r : List UInt8} (hc : checkB kd l = true) (h0 : ¬ kd = 0) (hr : Sep r) :
    oneR (srcL kd l ++ r) = .ok kd (srcL kd l).length ∧ textL kd (srcL kd l).length (srcL kd l ++ r) = l ∧ Tk.skipL false (srcL kd l ++ r) = 0 ∧ 0 < (srcL kd l).length := by
  unfold checkB at hc
  rw [if_neg h0] at hc
  by_cases k1 : kd = 1
  · subst k1
    rw [if_pos rfl] at hc
    have e : srcL 1 l = l := rfl
    rw [e]
    unfold nameB at hc
    simp only [Bool.and_eq_true, Bool.not_eq_true', decide_eq_true_eq] at hc
    obtain ⟨⟨⟨n0, n1⟩, n2⟩, n3⟩ := hc
    cases l with
    | nil => cases n0
    | cons c l =>
      have ht : tw nmB ((c :: l) ++ r) = (c :: l).length := tw_app n3 (hr.no rfl rfl rfl rfl)
      have hcn : nmB c = true := by simp at n3; exact n3.1
      have hcd : digB (bi c) = false := by simpa [dgB] using n2
      have hcl : letB (bi c) = true := by unfold nmB at hcn; rw [hcd] at hcn; simpa using hcn
      have hb : (97 ≤ bi c ∧ bi c ≤ 122) ∨ (65 ≤ bi c ∧ bi c ≤ 90) ∨ bi c = 95 := by simpa [letB, or_assoc] using hcl
      refine ⟨?_, ?_, skip0 (by omega) (by omega) (by omega) (by omega), by simp⟩
      · unfold oneR
        rw [show ((c :: l) ++ r).getD 0 0 = c from rfl, if_pos hcl]
        unfold nameR
        rw [ht, if_neg (by omega)]
      · unfold textL; rw [if_neg (by decide)]; simp
  rw [if_neg k1] at hc
  by_cases k2 : kd = 2
  · subst k2
    rw [if_pos rfl] at hc
    have e : srcL 2 l = l := rfl
    rw [e]
    unfold numB at hc
    simp only [Bool.and_eq_true, Bool.not_eq_true', Bool.or_eq_true, decide_eq_true_eq, decide_eq_false_iff_not] at hc
    obtain ⟨⟨⟨n0, n1⟩, n2⟩, n3⟩ := hc
    cases l with
    | nil => cases n0
    | cons c l =>
      have ht : tw dgB ((c :: l) ++ r) = (c :: l).length := tw_app n3 (hr.no rfl rfl rfl rfl)
      have hcd : digB (bi c) = true := by simp at n3; exact n3.1
      have hb : 48 ≤ bi c ∧ bi c ≤ 57 := by simpa [digB] using hcd
      have hcl : letB (bi c) = false := by simp [letB]; omega
      refine ⟨?_, ?_, skip0 (by omega) (by omega) (by omega) (by omega), by simp⟩
      · unfold oneR
        rw [show ((c :: l) ++ r).getD 0 0 = c from rfl, if_neg (by simp [hcl]), if_pos hcd]
        unfold numR
        rw [ht, if_neg (by omega), if_neg]
        rintro ⟨h1, h2⟩
        rcases n2 with n2 | n2
        · omega
        · exact n2 h2
      · unfold textL; rw [if_neg (by decide)]; simp
  rw [if_neg k2] at hc
  by_cases k3 : kd = 3
  · subst k3
    rw [if_pos rfl] at hc
    have e : srcL 3 l = 34 :: (l ++ [34]) := rfl
    rw [e]
    unfold quoB at hc
    simp only [Bool.and_eq_true, decide_eq_true_eq] at hc
    obtain ⟨n1, n3⟩ := hc
    have e2 : (34 :: (l ++ [34])) ++ r = 34 :: (l ++ (34 :: r)) := by simp
    rw [e2]
    have ht : tw ptB (l ++ (34 :: r)) = l.length := tw_app n3 (.inr ⟨34, r, rfl, by decide⟩)
    refine ⟨?_, ?_, rfl, by simp⟩
    · unfold oneR
      rw [show ((34 : UInt8) :: (l ++ 34 :: r)).getD 0 0 = 34 from rfl, if_neg (by decide), if_neg (by decide), if_pos (by decide)]
      unfold textR
      rw [show ((34 : UInt8) :: (l ++ 34 :: r)).drop 1 = l ++ 34 :: r from rfl, ht, if_neg (by simp), if_neg, if_neg (by omega)]
      · simp
      · have : (l ++ 34 :: r).getD l.length 0 = 34 := by simp
        rw [this]; decide
    · unfold textL; rw [if_pos rfl]; simp
  rw [if_neg k3] at hc
  by_cases k4 : kd = 4
  · subst k4
    rw [if_pos rfl] at hc
    have e : srcL 4 l = l := rfl
    rw [e]
    unfold inWords at hc
    rw [words_marks, Bool.and_eq_true] at hc
    have hm := hc.2
    simp only [wordsL, List.contains_iff_mem, List.mem_cons, List.not_mem_nil, or_false] at hm
    have one : ∀ c : UInt8, c ∈ ([123, 125, 40, 41, 59, 58, 44, 46, 45, 126, 42, 33, 94] : List UInt8) → oneR ([c] ++ r) = .ok 4 1 ∧ Tk.skipL false ([c] ++ r) = 0 := by
      intro c hc
      simp only [List.mem_cons, List.not_mem_nil, or_false] at hc
      rcases hr with rfl | ⟨d, r', rfl, rfl | rfl | rfl | rfl⟩ <;> rcases hc with rfl | rfl | rfl | rfl | rfl | rfl | rfl | rfl | rfl | rfl | rfl | rfl | rfl <;> exact ⟨rfl, rfl⟩
    have two : ∀ m : List UInt8, m ∈ marks2 → oneR (m ++ r) = .ok 4 2 ∧ Tk.skipL false (m ++ r) = 0 := by
      intro m hm
      simp only [marks2, List.mem_cons, List.not_mem_nil, or_false] at hm
      rcases hm with rfl | rfl | rfl | rfl <;> exact ⟨rfl, rfl⟩
    rcases hm with rfl | rfl | rfl | rfl | rfl | rfl | rfl | rfl | rfl | rfl | rfl | rfl | rfl | rfl | rfl | rfl | rfl
    all_goals first
      | exact ⟨(one _ (by decide)).1, rfl, (one _ (by decide)).2, by decide⟩
      | exact ⟨(two _ (by decide)).1, rfl, (two _ (by decide)).2, by decide⟩
  · rw [if_neg k4] at hc; cases hc
end Go.Proofs.Ytffflmghfcgkfaa
