/- What the chapter on tokens says, as plain functions on lists of bytes and integers. No program in sight. -/
set_option linter.unusedSimpArgs false
set_option linter.unusedVariables false
namespace Go.Proofs.Ytnifgkgdphlleaa.Tk

def letB (c : Int) : Bool := decide (97 ≤ c ∧ c ≤ 122) || decide (65 ≤ c ∧ c ≤ 90) || decide (c = 95)
def digB (c : Int) : Bool := decide (48 ≤ c ∧ c ≤ 57)
def prtB (c : Int) : Bool := decide (32 ≤ c ∧ c ≤ 126 ∧ c ≠ 34)

/-- the number of a byte -/
def bi (c : UInt8) : Int := (c.toNat : Int)
def nmB (c : UInt8) : Bool := letB (bi c) || digB (bi c)
def dgB (c : UInt8) : Bool := digB (bi c)
def ptB (c : UInt8) : Bool := prtB (bi c)

def nameB (l : List UInt8) : Bool := !l.isEmpty && decide (l.length ≤ 32) && !dgB (l.getD 0 0) && l.all nmB
def numB (l : List UInt8) : Bool := !l.isEmpty && decide (l.length ≤ 9) && (decide (l.length ≤ 1) || !decide (bi (l.getD 0 0) = 48)) && l.all dgB
def quoB (l : List UInt8) : Bool := decide (l.length ≤ 256) && l.all ptB

/-- the words of a text, each of which is followed by a blank -/
def words : List UInt8 → List UInt8 → List (List UInt8)
  | _, [] => []
  | acc, c :: l => if c = 32 then acc :: words [] l else words (acc ++ [c]) l
def inWords (s ws : List UInt8) : Bool := !s.isEmpty && (words [] ws).contains s
/-- what is left to be looked at, from f on, at k -/
def inRest (s ws : List UInt8) (f k : Nat) : Bool := !s.isEmpty && (words ((ws.drop f).take (k - f)) (ws.drop k)).contains s

theorem inRest_start (s ws : List UInt8) : inRest s ws 0 0 = inWords s ws := by simp [inRest, inWords]
theorem inRest_end (s ws : List UInt8) (f k : Nat) (h : ws.length ≤ k) : inRest s ws f k = false := by
  simp [inRest, List.drop_of_length_le h, words]
theorem inRest_hit (s ws : List UInt8) (f k : Nat) (h : k < ws.length) (hb : ws[k] = 32) (hs : (ws.drop f).take (k - f) = s) (hn : s.isEmpty = false) : inRest s ws f k = true := by
  simp [inRest, List.drop_eq_getElem_cons h, hb, words, hs, hn]
theorem inRest_miss (s ws : List UInt8) (f k : Nat) (h : k < ws.length) (hb : ws[k] = 32) (hs : ¬ ((ws.drop f).take (k - f) = s ∧ s.isEmpty = false)) : inRest s ws f k = inRest s ws (k + 1) (k + 1) := by
  by_cases hn : s.isEmpty = false
  · have h1 : ¬ (ws.drop f).take (k - f) = s := fun h' => hs ⟨h', hn⟩
    have h2 : ¬ s = (ws.drop f).take (k - f) := fun h' => h1 h'.symm
    simp [inRest, List.drop_eq_getElem_cons h, hb, words, h2]
  · have hn' : s.isEmpty = true := by simpa using hn
    simp [inRest, hn']
theorem inRest_other (s ws : List UInt8) (f k : Nat) (hf : f ≤ k) (h : k < ws.length) (hb : ¬ ws[k] = 32) : inRest s ws f k = inRest s ws f (k + 1) := by
  have ht : (ws.drop f).take (k - f) ++ [ws[k]] = (ws.drop f).take (k + 1 - f) := by
    have hl : k - f < (ws.drop f).length := by simp; omega
    rw [show k + 1 - f = (k - f) + 1 by omega, List.take_succ_eq_append_getElem hl]
    simp [show f + (k - f) = k by omega]
  simp only [inRest]
  rw [List.drop_eq_getElem_cons h, words, if_neg hb, ht]

theorem take_all_succ {p : UInt8 → Bool} (l : List UInt8) (k : Nat) (h : k < l.length) : (l.take (k + 1)).all p = ((l.take k).all p && p l[k]) := by
  rw [List.take_succ_eq_append_getElem h, List.all_append]; simp
theorem all_false_of {p : UInt8 → Bool} (l : List UInt8) (k : Nat) (h : k < l.length) (hp : p l[k] = false) : l.all p = false := by
  rw [List.all_eq_false]; exact ⟨l[k], List.getElem_mem h, by simp [hp]⟩
theorem all_of_take {p : UInt8 → Bool} (l : List UInt8) (k : Nat) (h : l.length ≤ k) (hp : (l.take k).all p = true) : l.all p = true := by
  rwa [List.take_of_length_le h] at hp

theorem sz (s : ByteArray) : s.data.toList.length = s.size := Array.length_toList
theorem at_ (s : ByteArray) (k : Nat) (h : k < s.size) : s.data.toList[k]'(by rw [sz]; exact h) = s[k] := rfl
theorem all_step {p : UInt8 → Bool} (s : ByteArray) (k : Nat) (h : k < s.size) (ha : (s.data.toList.take k).all p = true) (hp : p s[k] = true) : (s.data.toList.take (k + 1)).all p = true := by
  rw [take_all_succ _ _ (by rw [sz]; exact h), ha, at_ s k h, hp]; rfl
theorem all_stop {p : UInt8 → Bool} (s : ByteArray) (k : Nat) (h : k < s.size) (hp : p s[k] = false) : s.data.toList.all p = false :=
  all_false_of _ k (by rw [sz]; exact h) (by rw [at_ s k h]; exact hp)
theorem all_done {p : UInt8 → Bool} (s : ByteArray) (k : Nat) (h : s.size ≤ k) (ha : (s.data.toList.take k).all p = true) : s.data.toList.all p = true :=
  all_of_take _ k (by rw [sz]; exact h) ha
theorem isEmpty_of (s : ByteArray) (h : 0 < s.size) : s.data.toList.isEmpty = false := by
  cases hl : s.data.toList with
  | nil => have := sz s; rw [hl] at this; simp at this; omega
  | cons => rfl
theorem isEmpty_no (s : ByteArray) (h : ¬ 0 < s.size) : s.data.toList = [] := by
  cases hl : s.data.toList with
  | nil => rfl
  | cons => have := sz s; rw [hl] at this; simp at this; omega
theorem getD_of (s : ByteArray) (h : 0 < s.size) : s.data.toList.getD 0 0 = s[0] := by
  rw [List.getD_eq_getElem?_getD, List.getElem?_eq_getElem (by rw [sz]; exact h)]; rfl

/-- the position behind a byte -/
def aft (p : Int × Int) (c : UInt8) : Int × Int := if bi c = 10 then (p.1 + 1, 1) else (p.1, p.2 + 1)
/-- the position of the byte with index k -/
def loc (l : List UInt8) (k : Nat) : Int × Int := (l.take k).foldl aft (1, 1)
theorem loc_zero (l : List UInt8) : loc l 0 = (1, 1) := by simp [loc]
theorem loc_succ (l : List UInt8) (k : Nat) (h : k < l.length) : loc l (k + 1) = aft (loc l k) l[k] := by
  unfold loc; rw [List.take_succ_eq_append_getElem h, List.foldl_append]; rfl
theorem loc_le (l : List UInt8) : ∀ k : Nat, 1 ≤ (loc l k).1 ∧ (loc l k).1 ≤ k + 1 ∧ 1 ≤ (loc l k).2 ∧ (loc l k).2 ≤ k + 1
  | 0 => by rw [loc_zero]; simp
  | k + 1 => by
    have ih := loc_le l k
    rcases Nat.lt_or_ge k l.length with h | h
    · rw [loc_succ l k h]; unfold aft; split <;> simp <;> omega
    · have : loc l (k + 1) = loc l k := by unfold loc; rw [List.take_of_length_le h, List.take_of_length_le (by omega)]
      rw [this]; omega

/-- the length of the longest beginning whose bytes are of a kind -/
def tw (p : UInt8 → Bool) (l : List UInt8) : Nat := (l.takeWhile p).length
theorem tw_le (p : UInt8 → Bool) (l : List UInt8) : tw p l ≤ l.length := (List.takeWhile_sublist p).length_le
theorem tw_nil (p : UInt8 → Bool) : tw p [] = 0 := rfl
theorem tw_cons (p : UInt8 → Bool) (c : UInt8) (l : List UInt8) : tw p (c :: l) = if p c = true then tw p l + 1 else 0 := by
  unfold tw; rw [List.takeWhile_cons]; split <;> simp
theorem tw_yes (p : UInt8 → Bool) (l : List UInt8) (k : Nat) (h : k < l.length) (hp : p l[k] = true) : tw p (l.drop k) = tw p (l.drop (k + 1)) + 1 := by
  rw [List.drop_eq_getElem_cons h, tw_cons, if_pos hp]
theorem tw_no (p : UInt8 → Bool) (l : List UInt8) (k : Nat) (h : k < l.length) (hp : p l[k] = false) : tw p (l.drop k) = 0 := by
  rw [List.drop_eq_getElem_cons h, tw_cons, if_neg (by simp [hp])]
theorem tw_end (p : UInt8 → Bool) (l : List UInt8) (k : Nat) (h : l.length ≤ k) : tw p (l.drop k) = 0 := by
  rw [List.drop_of_length_le h]; rfl
/-- the byte behind the longest beginning is of another kind -/
theorem tw_stop (p : UInt8 → Bool) (l : List UInt8) (k : Nat) (h : k + tw p (l.drop k) < l.length) : p l[k + tw p (l.drop k)] = false := by
  cases hp : p l[k + tw p (l.drop k)]
  · rfl
  · exfalso
    have key : ∀ (m : List UInt8) (h : tw p m < m.length), p m[tw p m] = false := by
      intro m
      induction m with
      | nil => intro h; simp [tw] at h
      | cons c m ih =>
        intro h
        cases hc : p c
        · simp [tw_cons, hc]
        · have h1 : tw p (c :: m) = tw p m + 1 := by rw [tw_cons, if_pos hc]
          have h2 : tw p m < m.length := by rw [h1] at h; simpa using h
          have := ih h2
          simp only [h1, List.getElem_cons_succ]
          exact this
    have hlt : tw p (l.drop k) < (l.drop k).length := by simp; omega
    have := key (l.drop k) hlt
    rw [List.getElem_drop] at this
    rw [this] at hp
    cases hp

/-- what the scanner finds at the head of a list: an error and how far on it lies, or a kind and a length -/
inductive Res where
  | err (c : Int) (off : Nat)
  | ok (kind : Int) (n : Nat)
def nameR (l : List UInt8) : Res := if 32 < tw nmB l then .err 10 0 else .ok 1 (tw nmB l)
def numR (l : List UInt8) : Res := if 9 < tw dgB l then .err 3 0 else if 1 < tw dgB l ∧ bi (l.getD 0 0) = 48 then .err 9 0 else .ok 2 (tw dgB l)
def textR (l : List UInt8) : Res :=
  if (l.drop 1).length ≤ tw ptB (l.drop 1) then .err 5 0
  else if ¬ bi ((l.drop 1).getD (tw ptB (l.drop 1)) 0) = 34 then .err 9 (1 + tw ptB (l.drop 1))
  else if 256 < tw ptB (l.drop 1) then .err 4 0 else .ok 3 (tw ptB (l.drop 1) + 2)
def marks2 : List (List UInt8) := [[61, 61], [33, 61], [38, 38], [124, 124]]
def marks1 : List UInt8 := [123, 125, 40, 41, 59, 58, 44, 46, 45, 126, 42, 33, 94]
def markN (l : List UInt8) : Nat := if marks2.contains (l.take 2) then 2 else if (match l with | [] => false | c :: _ => marks1.contains c) then 1 else 0
def markR (l : List UInt8) : Res := if markN l = 0 then .err 9 0 else .ok 4 (markN l)
def oneR (l : List UInt8) : Res :=
  if letB (bi (l.getD 0 0)) then nameR l else if digB (bi (l.getD 0 0)) then numR l else if bi (l.getD 0 0) = 34 then textR l else markR l

/-- how many bytes of blanks and comments lie at the head -/
def skipL : Bool → List UInt8 → Nat
  | _, [] => 0
  | c, b :: l => if bi b = 10 then skipL false l + 1 else if bi b = 35 then skipL true l + 1 else if c = true ∨ bi b = 32 ∨ bi b = 9 then skipL c l + 1 else 0
theorem skipL_le : ∀ (c : Bool) (l : List UInt8), skipL c l ≤ l.length
  | _, [] => by simp [skipL]
  | c, b :: l => by
    have h1 := skipL_le false l
    have h2 := skipL_le true l
    have h3 := skipL_le c l
    unfold skipL
    repeat' split
    all_goals simp only [List.length_cons]; omega

/-- the reserved words -/
def kwList : List (List UInt8) := [[109, 111, 100, 117, 108, 101],
  [99, 108, 97, 115, 115],
  [116, 121, 112, 101],
  [97, 108, 105, 97, 115],
  [116, 121, 112, 101, 97, 116, 116, 114, 105, 98, 117, 116, 101],
  [97, 116, 116, 114, 105, 98, 117, 116, 101],
  [114, 111, 108, 101],
  [116, 121, 112, 101, 115],
  [114, 111, 108, 101, 97, 108, 108, 111, 119],
  [114, 111, 108, 101, 95, 116, 114, 97, 110, 115, 105, 116, 105, 111, 110],
  [117, 115, 101, 114],
  [114, 111, 108, 101, 115],
  [108, 101, 118, 101, 108],
  [114, 97, 110, 103, 101],
  [98, 111, 111, 108],
  [116, 114, 117, 101],
  [102, 97, 108, 115, 101],
  [115, 101, 110, 115, 105, 116, 105, 118, 105, 116, 121],
  [99, 97, 116, 101, 103, 111, 114, 121],
  [97, 108, 108, 111, 119],
  [97, 117, 100, 105, 116, 97, 108, 108, 111, 119],
  [100, 111, 110, 116, 97, 117, 100, 105, 116],
  [110, 101, 118, 101, 114, 97, 108, 108, 111, 119],
  [116, 121, 112, 101, 95, 116, 114, 97, 110, 115, 105, 116, 105, 111, 110],
  [116, 121, 112, 101, 95, 99, 104, 97, 110, 103, 101],
  [116, 121, 112, 101, 95, 109, 101, 109, 98, 101, 114],
  [114, 97, 110, 103, 101, 95, 116, 114, 97, 110, 115, 105, 116, 105, 111, 110],
  [99, 111, 110, 115, 116, 114, 97, 105, 110],
  [118, 97, 108, 105, 100, 97, 116, 101, 116, 114, 97, 110, 115],
  [105, 102],
  [101, 108, 115, 101],
  [111, 112, 116, 105, 111, 110, 97, 108],
  [114, 101, 113, 117, 105, 114, 101],
  [115, 105, 100],
  [102, 105, 108, 101, 99, 111, 110],
  [112, 101, 114, 109, 105, 115, 115, 105, 118, 101],
  [97, 115, 115, 101, 114, 116],
  [115, 101, 108, 102],
  [105, 110]]
def kwB (l : List UInt8) : Bool := kwList.contains l

theorem drop1 (l : List UInt8) (k : Nat) : (l.drop k).drop 1 = l.drop (k + 1) := by rw [List.drop_drop]
theorem getD_drop (l : List UInt8) (k : Nat) (h : k < l.length) : (l.drop k).getD 0 0 = l[k] := by
  rw [List.drop_eq_getElem_cons h]; rfl
end Go.Proofs.Ytnifgkgdphlleaa.Tk
