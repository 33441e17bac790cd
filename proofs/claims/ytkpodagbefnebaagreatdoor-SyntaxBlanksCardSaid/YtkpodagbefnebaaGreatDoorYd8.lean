import Derived.Test.YtkpodagbefnebaaGreatDoorRows
import Derived.Test.YtkpodagbefnebaaGreatDoorYd1
import Derived.WalkKit
import Derived.WalkSpells
import Derived.WalkLawsBesides
import Derived.Lib.Hide
import Derived.Test.YtkpodagbefnebaaGreatDoorYd7
set_option linter.unusedSimpArgs false
set_option linter.unusedVariables false
set_option linter.unusedSectionVars false
namespace Go.Proofs.YtkpodagbefnebaaGreatDoor.Tk

def letB (c : Int) : Bool := decide (97 ≤ c ∧ c ≤ 122) || decide (65 ≤ c ∧ c ≤ 90) || decide (c = 95)
def digB (c : Int) : Bool := decide (48 ≤ c ∧ c ≤ 57)
def prtB (c : Int) : Bool := decide (32 ≤ c ∧ c ≤ 126 ∧ c ≠ 34)

def bi (c : UInt8) : Int := (c.toNat : Int)
def nmB (c : UInt8) : Bool := letB (bi c) || digB (bi c)
def dgB (c : UInt8) : Bool := digB (bi c)
def ptB (c : UInt8) : Bool := prtB (bi c)

def nameB (l : List UInt8) : Bool := !l.isEmpty && decide (l.length ≤ 32) && !dgB (l.getD 0 0) && l.all nmB
def numB (l : List UInt8) : Bool := !l.isEmpty && decide (l.length ≤ 9) && (decide (l.length ≤ 1) || !decide (bi (l.getD 0 0) = 48)) && l.all dgB
def quoB (l : List UInt8) : Bool := decide (l.length ≤ 256) && l.all ptB

def words : List UInt8 → List UInt8 → List (List UInt8)
  | _, [] => []
  | acc, c :: l => if c = 32 then acc :: words [] l else words (acc ++ [c]) l
def inWords (s ws : List UInt8) : Bool := !s.isEmpty && (words [] ws).contains s
def inRest (s ws : List UInt8) (f k : Nat) : Bool := !s.isEmpty && (words ((ws.drop f).take (k - f)) (ws.drop k)).contains s

theorem inRest_start (s ws : List UInt8) : inRest s ws 0 0 = inWords s ws := by simp [inRest, inWords]
theorem inRest_end (s ws : List UInt8) (f k : Nat) (h : ws.length ≤ k) : inRest s ws f k = false := by
  simp [inRest, List.drop_of_length_le h, words]
theorem inRest_hit (s ws : List UInt8) (f k : Nat) (h : k < ws.length) (hb : ws[k] = 32) (hs : (ws.drop f).take (k - f) = s) (hn : s.isEmpty = false) : inRest s ws f k = true := by
  simp [inRest, List.drop_eq_getElem_cons h, hb, words, hs, hn]
theorem inRest_miss (s ws : List UInt8) (f k : Nat) (h : k < ws.length) (hb : ws[k] = 32) (hs : ¬ ((ws.drop f).take (k - f) = s ∧ s.isEmpty = false)) : inRest s ws f k = inRest s ws (k + 1) (k + 1) := by
  by_cases hn : s.isEmpty = false
  · have h1 : ¬ (ws.drop f).take (k - f) = s := fun h' => hs ⟨h', hn⟩
    have h2 : ¬ s = (ws.drop f).take (k - f) := fun h' => h1 h'.symm
    simp [inRest, List.drop_eq_getElem_cons h, hb, words, h2]
  · have hn' : s.isEmpty = true := by simpa using hn
    simp [inRest, hn']
theorem inRest_other (s ws : List UInt8) (f k : Nat) (hf : f ≤ k) (h : k < ws.length) (hb : ¬ ws[k] = 32) : inRest s ws f k = inRest s ws f (k + 1) := by
  have ht : (ws.drop f).take (k - f) ++ [ws[k]] = (ws.drop f).take (k + 1 - f) := by
    have hl : k - f < (ws.drop f).length := by simp; omega
    rw [show k + 1 - f = (k - f) + 1 by omega, List.take_succ_eq_append_getElem hl]
    simp [show f + (k - f) = k by omega]
  simp only [inRest]
  rw [List.drop_eq_getElem_cons h, words, if_neg hb, ht]

theorem take_all_succ {p : UInt8 → Bool} (l : List UInt8) (k : Nat) (h : k < l.length) : (l.take (k + 1)).all p = ((l.take k).all p && p l[k]) := by
  rw [List.take_succ_eq_append_getElem h, List.all_append]; simp
theorem all_false_of {p : UInt8 → Bool} (l : List UInt8) (k : Nat) (h : k < l.length) (hp : p l[k] = false) : l.all p = false := by
  rw [List.all_eq_false]; exact ⟨l[k], List.getElem_mem h, by simp [hp]⟩
theorem all_of_take {p : UInt8 → Bool} (l : List UInt8) (k : Nat) (h : l.length ≤ k) (hp : (l.take k).all p = true) : l.all p = true := by
  rwa [List.take_of_length_le h] at hp

theorem sz (s : ByteArray) : s.data.toList.length = s.size := Array.length_toList
theorem at_ (s : ByteArray) (k : Nat) (h : k < s.size) : s.data.toList[k]'(by rw [sz]; exact h) = s[k] := rfl
theorem all_step {p : UInt8 → Bool} (s : ByteArray) (k : Nat) (h : k < s.size) (ha : (s.data.toList.take k).all p = true) (hp : p s[k] = true) : (s.data.toList.take (k + 1)).all p = true := by
  rw [take_all_succ _ _ (by rw [sz]; exact h), ha, at_ s k h, hp]; rfl
theorem all_stop {p : UInt8 → Bool} (s : ByteArray) (k : Nat) (h : k < s.size) (hp : p s[k] = false) : s.data.toList.all p = false :=
  all_false_of _ k (by rw [sz]; exact h) (by rw [at_ s k h]; exact hp)
theorem all_done {p : UInt8 → Bool} (s : ByteArray) (k : Nat) (h : s.size ≤ k) (ha : (s.data.toList.take k).all p = true) : s.data.toList.all p = true :=
  all_of_take _ k (by rw [sz]; exact h) ha
theorem isEmpty_of (s : ByteArray) (h : 0 < s.size) : s.data.toList.isEmpty = false := by
  cases hl : s.data.toList with
  | nil => have := sz s; rw [hl] at this; simp at this; omega
  | cons => rfl
theorem isEmpty_no (s : ByteArray) (h : ¬ 0 < s.size) : s.data.toList = [] := by
  cases hl : s.data.toList with
  | nil => rfl
  | cons => have := sz s; rw [hl] at this; simp at this; omega
theorem getD_of (s : ByteArray) (h : 0 < s.size) : s.data.toList.getD 0 0 = s[0] := by
  rw [List.getD_eq_getElem?_getD, List.getElem?_eq_getElem (by rw [sz]; exact h)]; rfl

def aft (p : Int × Int) (c : UInt8) : Int × Int := if bi c = 10 then (p.1 + 1, 1) else (p.1, p.2 + 1)
def loc (l : List UInt8) (k : Nat) : Int × Int := (l.take k).foldl aft (1, 1)
theorem loc_zero (l : List UInt8) : loc l 0 = (1, 1) := by simp [loc]
theorem loc_succ (l : List UInt8) (k : Nat) (h : k < l.length) : loc l (k + 1) = aft (loc l k) l[k] := by
  unfold loc; rw [List.take_succ_eq_append_getElem h, List.foldl_append]; rfl
theorem loc_le (l : List UInt8) : ∀ k : Nat, 1 ≤ (loc l k).1 ∧ (loc l k).1 ≤ k + 1 ∧ 1 ≤ (loc l k).2 ∧ (loc l k).2 ≤ k + 1
  | 0 => by rw [loc_zero]; simp
  | k + 1 => by
    have ih := loc_le l k
    rcases Nat.lt_or_ge k l.length with h | h
    · rw [loc_succ l k h]; unfold aft; split <;> simp <;> omega
    · have : loc l (k + 1) = loc l k := by unfold loc; rw [List.take_of_length_le h, List.take_of_length_le (by omega)]
      rw [this]; omega

def tw (p : UInt8 → Bool) (l : List UInt8) : Nat := (l.takeWhile p).length
theorem tw_le (p : UInt8 → Bool) (l : List UInt8) : tw p l ≤ l.length := (List.takeWhile_sublist p).length_le
theorem tw_cons (p : UInt8 → Bool) (c : UInt8) (l : List UInt8) : tw p (c :: l) = if p c = true then tw p l + 1 else 0 := by
  unfold tw; rw [List.takeWhile_cons]; split <;> simp
theorem tw_yes (p : UInt8 → Bool) (l : List UInt8) (k : Nat) (h : k < l.length) (hp : p l[k] = true) : tw p (l.drop k) = tw p (l.drop (k + 1)) + 1 := by
  rw [List.drop_eq_getElem_cons h, tw_cons, if_pos hp]
theorem tw_no (p : UInt8 → Bool) (l : List UInt8) (k : Nat) (h : k < l.length) (hp : p l[k] = false) : tw p (l.drop k) = 0 := by
  rw [List.drop_eq_getElem_cons h, tw_cons, if_neg (by simp [hp])]
theorem tw_end (p : UInt8 → Bool) (l : List UInt8) (k : Nat) (h : l.length ≤ k) : tw p (l.drop k) = 0 := by
  rw [List.drop_of_length_le h]; rfl
inductive Res where
  | err (c : Int) (off : Nat)
  | ok (kind : Int) (n : Nat)
def nameR (l : List UInt8) : Res := if 32 < tw nmB l then .err 10 0 else .ok 1 (tw nmB l)
def numR (l : List UInt8) : Res := if 9 < tw dgB l then .err 3 0 else if 1 < tw dgB l ∧ bi (l.getD 0 0) = 48 then .err 9 0 else .ok 2 (tw dgB l)
def textR (l : List UInt8) : Res :=
  if (l.drop 1).length ≤ tw ptB (l.drop 1) then .err 5 0
  else if ¬ bi ((l.drop 1).getD (tw ptB (l.drop 1)) 0) = 34 then .err 9 (1 + tw ptB (l.drop 1))
  else if 256 < tw ptB (l.drop 1) then .err 4 0 else .ok 3 (tw ptB (l.drop 1) + 2)
def marks2 : List (List UInt8) := [[61, 61], [33, 61], [38, 38], [124, 124]]
def marks1 : List UInt8 := [123, 125, 40, 41, 59, 58, 44, 46, 45, 126, 42, 33, 94]
def markN (l : List UInt8) : Nat := if marks2.contains (l.take 2) then 2 else if (match l with | [] => false | c :: _ => marks1.contains c) then 1 else 0
def markR (l : List UInt8) : Res := if markN l = 0 then .err 9 0 else .ok 4 (markN l)
def oneR (l : List UInt8) : Res :=
  if letB (bi (l.getD 0 0)) then nameR l else if digB (bi (l.getD 0 0)) then numR l else if bi (l.getD 0 0) = 34 then textR l else markR l

def skipL : Bool → List UInt8 → Nat
  | _, [] => 0
  | c, b :: l => if bi b = 10 then skipL false l + 1 else if bi b = 35 then skipL true l + 1 else if c = true ∨ bi b = 32 ∨ bi b = 9 then skipL c l + 1 else 0
theorem skipL_le : ∀ (c : Bool) (l : List UInt8), skipL c l ≤ l.length
  | _, [] => by simp [skipL]
  | c, b :: l => by
    have h1 := skipL_le false l
    have h2 := skipL_le true l
    have h3 := skipL_le c l
    unfold skipL
    repeat' split
    all_goals simp only [List.length_cons]; omega

def kwList : List (List UInt8) := [[109, 111, 100, 117, 108, 101],
  [99, 108, 97, 115, 115],
  [116, 121, 112, 101],
  [97, 108, 105, 97, 115],
  [116, 121, 112, 101, 97, 116, 116, 114, 105, 98, 117, 116, 101],
  [97, 116, 116, 114, 105, 98, 117, 116, 101],
  [114, 111, 108, 101],
  [116, 121, 112, 101, 115],
  [114, 111, 108, 101, 97, 108, 108, 111, 119],
  [114, 111, 108, 101, 95, 116, 114, 97, 110, 115, 105, 116, 105, 111, 110],
  [117, 115, 101, 114],
  [114, 111, 108, 101, 115],
  [108, 101, 118, 101, 108],
  [114, 97, 110, 103, 101],
  [98, 111, 111, 108],
  [116, 114, 117, 101],
  [102, 97, 108, 115, 101],
  [115, 101, 110, 115, 105, 116, 105, 118, 105, 116, 121],
  [99, 97, 116, 101, 103, 111, 114, 121],
  [97, 108, 108, 111, 119],
  [97, 117, 100, 105, 116, 97, 108, 108, 111, 119],
  [100, 111, 110, 116, 97, 117, 100, 105, 116],
  [110, 101, 118, 101, 114, 97, 108, 108, 111, 119],
  [116, 121, 112, 101, 95, 116, 114, 97, 110, 115, 105, 116, 105, 111, 110],
  [116, 121, 112, 101, 95, 99, 104, 97, 110, 103, 101],
  [116, 121, 112, 101, 95, 109, 101, 109, 98, 101, 114],
  [114, 97, 110, 103, 101, 95, 116, 114, 97, 110, 115, 105, 116, 105, 111, 110],
  [99, 111, 110, 115, 116, 114, 97, 105, 110],
  [118, 97, 108, 105, 100, 97, 116, 101, 116, 114, 97, 110, 115],
  [105, 102],
  [101, 108, 115, 101],
  [111, 112, 116, 105, 111, 110, 97, 108],
  [114, 101, 113, 117, 105, 114, 101],
  [115, 105, 100],
  [102, 105, 108, 101, 99, 111, 110],
  [112, 101, 114, 109, 105, 115, 115, 105, 118, 101],
  [97, 115, 115, 101, 114, 116],
  [115, 101, 108, 102],
  [105, 110]]
def kwB (l : List UInt8) : Bool := kwList.contains l

theorem drop1 (l : List UInt8) (k : Nat) : (l.drop k).drop 1 = l.drop (k + 1) := by rw [List.drop_drop]
theorem getD_drop (l : List UInt8) (k : Nat) (h : k < l.length) : (l.drop k).getD 0 0 = l[k] := by
  rw [List.drop_eq_getElem_cons h]; rfl
end Go.Proofs.YtkpodagbefnebaaGreatDoor.Tk
namespace Go.Proofs.YtkpodagbefnebaaGreatDoor
open Go.RowKit Tk
theorem mixed : Tryz.prog.follows .mixedOrders = true := by kernel_rfl
@[go_sem] theorem wrap32_byte (c : UInt8) : wrap32 (c.toNat : Int) = (c.toNat : Int) := by
  have := c.toNat_lt; exact IntWalk.wrap32_in _ ⟨by omega, by omega⟩
@[go_sem] theorem wrap64_byte (c : UInt8) : wrap64 (c.toNat : Int) = (c.toNat : Int) := by
  have := c.toNat_lt; exact IntWalk.wrap64_in _ ⟨by omega, by omega⟩
@[go_sem] theorem kwrap32_byte (c : UInt8) : IntKind.i32.wrap (c.toNat : Int) = (c.toNat : Int) := by
  have := c.toNat_lt; exact IntWalk.i32_in _ ⟨by omega, by omega⟩
@[go_sem] theorem kwrap64_byte (c : UInt8) : IntKind.i64.wrap (c.toNat : Int) = (c.toNat : Int) := by
  have := c.toNat_lt; exact IntWalk.i64_in _ ⟨by omega, by omega⟩
theorem ret_bool {a b : Bool} (h : a = b) : Ending.returned (.bool a) = .returned (.bool b) := by rw [h]
theorem bl (s : ByteArray) : s.toList = s.data.toList := by rw [ByteArray.toList_eq]
theorem some_of {s : ByteArray} (h : 0 < s.size) : ¬ s.toList = [] ∧ s.toList.isEmpty = false := by
  have := isEmpty_of s h
  rw [bl]
  exact ⟨fun h' => (by rw [h'] at this; cases this), this⟩
theorem none_of {s : ByteArray} (h : ¬ 0 < s.size) : s.toList = [] := by rw [bl]; exact isEmpty_no s h
end Go.Proofs.YtkpodagbefnebaaGreatDoor
namespace Go.Proofs.YtkpodagbefnebaaGreatDoor
open Go.RowKit Tk
set_option maxHeartbeats 400000 in
theorem digit_any (c : Int) (w : World) : Calls Tryz.prog 142 #[.int .i32 c] w fun e w' => e = .returned (.bool (digB c)) ∧ w = w' := by
  go_enter Tryz.func142, Tryz.ntmps142
  go_wp2
  all_goals (go_ret; exact ⟨ret_bool (by simp [digB]; omega), rfl⟩)
set_option maxHeartbeats 400000 in
theorem letter_any (c : Int) (w : World) : Calls Tryz.prog 143 #[.int .i32 c] w fun e w' => e = .returned (.bool (letB c)) ∧ w = w' := by
  go_enter Tryz.func143, Tryz.ntmps143
  go_wp2
  all_goals (go_ret; exact ⟨ret_bool (by rw [Bool.eq_iff_iff]; simp [letB]; omega), rfl⟩)
theorem nameB_long (s : ByteArray) (h : 32 < s.size) : nameB s.data.toList = false := by simp [nameB]; omega
theorem nameB_dig (s : ByteArray) (h : 0 < s.size) (hd : dgB s[0] = true) : nameB s.data.toList = false := by
  unfold nameB; rw [getD_of s h, hd]; simp
theorem nameB_bad (s : ByteArray) (k : Nat) (h : k < s.size) (hk : nmB s[k] = false) : nameB s.data.toList = false := by
  unfold nameB; rw [all_stop s k h hk]; simp
theorem nameB_ok (s : ByteArray) (k : Nat) (h : 0 < s.size) (h2 : ¬ 32 < s.size) (hd : dgB s[0] = false) (hk : s.size ≤ k) (ha : (s.data.toList.take k).all nmB = true) : nameB s.data.toList = true := by
  unfold nameB; rw [getD_of s h, hd, all_done s k hk ha, isEmpty_of s h]; simp; omega
set_option maxHeartbeats 400000 in
theorem named_any (s : ByteArray) (hs : s.size ≤ maxLen) (w : World) : Calls Tryz.prog 76 #[.string s] w fun e w' => e = .returned (.bool (nameB s.data.toList)) ∧ w = w' := by
  unfold maxLen at hs
  by_cases h0 : 0 < s.size
  · obtain ⟨he1, he2⟩ := some_of h0
    by_cases h32 : 32 < s.size
    · go_enter Tryz.func76, Tryz.ntmps76
      go_wp2_with (((go_at_call 142; ((with_reducible refine (digit_any _ _).mono ?_); rintro e w' ⟨rfl, rfl⟩))))
      go_ret
      exact ⟨ret_bool (nameB_long s h32).symm, rfl⟩
    · by_cases hd : digB (s[0].toNat : Int) = true
      · go_enter Tryz.func76, Tryz.ntmps76
        go_wp2_with (((go_at_call 142; ((with_reducible refine (digit_any _ _).mono ?_); rintro e w' ⟨rfl, rfl⟩))))
        go_ret
        exact ⟨ret_bool (nameB_dig s h0 hd).symm, rfl⟩
      · have hd2 : digB (s[0].toNat : Int) = false := by simpa using hd
        clear hd
        go_enter Tryz.func76, Tryz.ntmps76
        go_wp2_with (((go_at_call 142; ((with_reducible refine (digit_any _ _).mono ?_); rintro e w' ⟨rfl, rfl⟩))))
        go_loop [20] (fun i => ∃ k : Nat, k ≤ s.size ∧ i = .int .i64 k ∧ Hid ((s.data.toList.take k).all nmB = true)) (fun i => s.size - (intOf i).toNat)
        case atStart => exact ⟨0, by omega, rfl, by simp [Hid]⟩
        case round =>
          obtain ⟨k, hk, rfl, hall⟩ := hrel
          by_cases hlt : k < s.size
          · by_cases hn : nmB s[k] = true
            · have hcase : letB (s[k].toNat : Int) = true ∨ letB (s[k].toNat : Int) = false ∧ digB (s[k].toNat : Int) = true := by
                cases hl : letB (s[k].toNat : Int)
                · simp [nmB, bi, hl] at hn; exact .inr ⟨rfl, hn⟩
                · exact .inl rfl
              have HN := Lib.hid hn
              clear hn
              rcases hcase with hl | ⟨hl, hg⟩
              all_goals
                go_wp2_with (first | (go_at_call 142; ((with_reducible refine (digit_any _ _).mono ?_); rintro e w' ⟨rfl, rfl⟩)) | (go_at_call 143; ((with_reducible refine (letter_any _ _).mono ?_); rintro e w' ⟨rfl, rfl⟩)))
                go_round
                case rel => exact ⟨k + 1, by omega, by go_num, all_step s k hlt hall.out HN.out⟩
                case measure => simp [intOf]; omega
            · have hn2 : nmB s[k] = false := by simpa using hn
              have hl : letB (s[k].toNat : Int) = false := by simp [nmB, bi] at hn2; exact hn2.1
              have hg : digB (s[k].toNat : Int) = false := by simp [nmB, bi] at hn2; exact hn2.2
              have HN := Lib.hid hn2
              clear hn2 hn
              go_wp2_with (first | (go_at_call 142; ((with_reducible refine (digit_any _ _).mono ?_); rintro e w' ⟨rfl, rfl⟩)) | (go_at_call 143; ((with_reducible refine (letter_any _ _).mono ?_); rintro e w' ⟨rfl, rfl⟩)))
              go_ret
              exact ⟨ret_bool (nameB_bad s k hlt HN.out).symm, rfl⟩
          · go_wp2
            go_ret
            exact ⟨ret_bool (nameB_ok s k h0 h32 hd2 (by omega) hall.out).symm, rfl⟩
  · have he := none_of h0
    go_enter Tryz.func76, Tryz.ntmps76
    go_wp2_with (((go_at_call 142; ((with_reducible refine (digit_any _ _).mono ?_); rintro e w' ⟨rfl, rfl⟩))))
    go_ret
    exact ⟨ret_bool (by rw [isEmpty_no s h0]; rfl), rfl⟩
theorem ext_list (s : ByteArray) (f k : Nat) : (s.extract f k).toList = (s.data.toList.drop f).take (k - f) := by
  rw [bl]; simp [ByteArray.data_extract]
set_option maxHeartbeats 400000 in
theorem within_any (s ws : ByteArray) (hw : ws.size ≤ maxLen) (w : World) : Calls Tryz.prog 123 #[.string s, .string ws] w fun e w' => e = .returned (.bool (inWords s.data.toList ws.data.toList)) ∧ w = w' := by
  unfold maxLen at hw
  go_enter Tryz.func123, Tryz.ntmps123
  go_wp2_with (first | ((with_reducible refine wpTxt_q ?_ ?_ ?_); rfl; rfl; intro _ _) | ((with_reducible refine wpTxt_w0 ?_ ?_ ?_); rfl; rfl; intro _ _) | ((with_reducible refine wpTxt_s ?_ ?_); rfl; intro _ _; go_simp) | ((with_reducible refine wpTxt_sw ?_ ?_); rfl; intro _ _; go_simp) | (with_reducible refine wpTxt_nil ?_) | ((with_reducible refine wp_region_t mixed ?_ ?_); decide +kernel; intro _ _))
  go_loop [5, 6] (fun x i => ∃ f k : Nat, k ≤ ws.size ∧ f ≤ k ∧ x = .int .i64 f ∧ i = .int .i64 k ∧ Hid (inRest s.data.toList ws.data.toList f k = inWords s.data.toList ws.data.toList)) (fun _ i => ws.size - (intOf i).toNat)
  case atStart => exact ⟨0, 0, by omega, by omega, rfl, rfl, inRest_start _ _⟩
  case round =>
    obtain ⟨f, k, hk, hf, rfl, rfl, hall⟩ := hrel
    by_cases hlt : k < ws.size
    · by_cases hb : (ws[k].toNat : Int) = 32
      · have hbb : ((ws[k].toNat : Int) != 32) = false := by simpa using hb
        have hb2 : ws.data.toList[k]'(by rw [sz]; exact hlt) = 32 := by
          rw [at_ ws k hlt]; apply UInt8.toNat_inj.1; simp; omega
        have HB := Lib.hid hb2
        clear hb hb2
        have hL : k < ws.data.toList.length := by rw [sz]; exact hlt
        go_wp2
        · have h1 : (ws.extract f k).toList = s.toList := by assumption
          have h2 : (!s.toList.isEmpty) = true := by assumption
          go_ret
          refine ⟨ret_bool ?_, rfl⟩
          rw [← hall.out]
          rw [ext_list, bl] at h1
          rw [bl] at h2
          exact (inRest_hit _ _ f k hL HB.out h1 (by simpa using h2)).symm
        all_goals
          go_round
          case rel =>
            refine ⟨k + 1, k + 1, by omega, by omega, by go_num, by go_num, ?_⟩
            refine (inRest_miss _ _ f k hL HB.out ?_).symm.trans hall.out
            rintro ⟨h1, h2⟩
            rw [← ext_list, ← bl] at h1
            rw [← bl] at h2
            first
              | (have h3 : ¬ (ws.extract f k).toList = s.toList := by assumption
                 exact h3 h1)
              | (have h3 : (!s.toList.isEmpty) = false := by assumption
                 rw [h2] at h3; cases h3)
          case measure => simp [intOf]; omega
      · have hbb : ((ws[k].toNat : Int) != 32) = true := by simpa using hb
        have HB := Lib.hid hb
        clear hb
        go_wp2
        go_round
        case rel =>
          refine ⟨f, k + 1, by omega, by omega, rfl, by go_num, ?_⟩
          refine (inRest_other _ _ f k hf (by rw [sz]; exact hlt) ?_).symm.trans hall.out
          rw [at_ ws k hlt]
          intro h
          exact HB.out (by rw [h]; rfl)
        case measure => simp [intOf]; omega
    · go_wp2
      go_ret
      exact ⟨ret_bool (by rw [← hall.out, inRest_end]; rw [sz]; omega), rfl⟩
theorem kw_in (s : ByteArray) (h : kwB s.data.toList = true) : s.toList = [109, 111, 100, 117, 108, 101] ∨ s.toList = [99, 108, 97, 115, 115] ∨ s.toList = [116, 121, 112, 101] ∨ s.toList = [97, 108, 105, 97, 115] ∨ s.toList = [116, 121, 112, 101, 97, 116, 116, 114, 105, 98, 117, 116, 101] ∨ s.toList = [97, 116, 116, 114, 105, 98, 117, 116, 101] ∨ s.toList = [114, 111, 108, 101] ∨ s.toList = [116, 121, 112, 101, 115] ∨ s.toList = [114, 111, 108, 101, 97, 108, 108, 111, 119] ∨ s.toList = [114, 111, 108, 101, 95, 116, 114, 97, 110, 115, 105, 116, 105, 111, 110] ∨ s.toList = [117, 115, 101, 114] ∨ s.toList = [114, 111, 108, 101, 115] ∨ s.toList = [108, 101, 118, 101, 108] ∨ s.toList = [114, 97, 110, 103, 101] ∨ s.toList = [98, 111, 111, 108] ∨ s.toList = [116, 114, 117, 101] ∨ s.toList = [102, 97, 108, 115, 101] ∨ s.toList = [115, 101, 110, 115, 105, 116, 105, 118, 105, 116, 121] ∨ s.toList = [99, 97, 116, 101, 103, 111, 114, 121] ∨ s.toList = [97, 108, 108, 111, 119] ∨ s.toList = [97, 117, 100, 105, 116, 97, 108, 108, 111, 119] ∨ s.toList = [100, 111, 110, 116, 97, 117, 100, 105, 116] ∨ s.toList = [110, 101, 118, 101, 114, 97, 108, 108, 111, 119] ∨ s.toList = [116, 121, 112, 101, 95, 116, 114, 97, 110, 115, 105, 116, 105, 111, 110] ∨ s.toList = [116, 121, 112, 101, 95, 99, 104, 97, 110, 103, 101] ∨ s.toList = [116, 121, 112, 101, 95, 109, 101, 109, 98, 101, 114] ∨ s.toList = [114, 97, 110, 103, 101, 95, 116, 114, 97, 110, 115, 105, 116, 105, 111, 110] ∨ s.toList = [99, 111, 110, 115, 116, 114, 97, 105, 110] ∨ s.toList = [118, 97, 108, 105, 100, 97, 116, 101, 116, 114, 97, 110, 115] ∨ s.toList = [105, 102] ∨ s.toList = [101, 108, 115, 101] ∨ s.toList = [111, 112, 116, 105, 111, 110, 97, 108] ∨ s.toList = [114, 101, 113, 117, 105, 114, 101] ∨ s.toList = [115, 105, 100] ∨ s.toList = [102, 105, 108, 101, 99, 111, 110] ∨ s.toList = [112, 101, 114, 109, 105, 115, 115, 105, 118, 101] ∨ s.toList = [97, 115, 115, 101, 114, 116] ∨ s.toList = [115, 101, 108, 102] ∨ s.toList = [105, 110] := by
  rw [bl]
  simpa [kwB, kwList] using h
theorem kw_out (s : ByteArray) (h : kwB s.data.toList = false) (x : List UInt8) (hx : x ∈ kwList) : (s.toList == x) = false := by
  rw [bl]
  cases he : s.data.toList == x
  · rfl
  · rw [beq_iff_eq] at he
    rw [← he] at hx
    have : kwB s.data.toList = true := by simpa [kwB] using hx
    rw [this] at h
    cases h
set_option maxHeartbeats 2000000 in
theorem tKeyword_any (s : ByteArray) (w : World) : Calls Tryz.prog 32 #[.string s] w fun e w' => e = .returned (.bool (kwB s.data.toList)) ∧ w = w' := by
  cases hk : kwB s.data.toList
  · have h0 := kw_out s hk [109, 111, 100, 117, 108, 101] (by decide +kernel)
    have h1 := kw_out s hk [99, 108, 97, 115, 115] (by decide +kernel)
    have h2 := kw_out s hk [116, 121, 112, 101] (by decide +kernel)
    have h3 := kw_out s hk [97, 108, 105, 97, 115] (by decide +kernel)
    have h4 := kw_out s hk [116, 121, 112, 101, 97, 116, 116, 114, 105, 98, 117, 116, 101] (by decide +kernel)
    have h5 := kw_out s hk [97, 116, 116, 114, 105, 98, 117, 116, 101] (by decide +kernel)
    have h6 := kw_out s hk [114, 111, 108, 101] (by decide +kernel)
    have h7 := kw_out s hk [116, 121, 112, 101, 115] (by decide +kernel)
    have h8 := kw_out s hk [114, 111, 108, 101, 97, 108, 108, 111, 119] (by decide +kernel)
    have h9 := kw_out s hk [114, 111, 108, 101, 95, 116, 114, 97, 110, 115, 105, 116, 105, 111, 110] (by decide +kernel)
    have h10 := kw_out s hk [117, 115, 101, 114] (by decide +kernel)
    have h11 := kw_out s hk [114, 111, 108, 101, 115] (by decide +kernel)
    have h12 := kw_out s hk [108, 101, 118, 101, 108] (by decide +kernel)
    have h13 := kw_out s hk [114, 97, 110, 103, 101] (by decide +kernel)
    have h14 := kw_out s hk [98, 111, 111, 108] (by decide +kernel)
    have h15 := kw_out s hk [116, 114, 117, 101] (by decide +kernel)
    have h16 := kw_out s hk [102, 97, 108, 115, 101] (by decide +kernel)
    have h17 := kw_out s hk [115, 101, 110, 115, 105, 116, 105, 118, 105, 116, 121] (by decide +kernel)
    have h18 := kw_out s hk [99, 97, 116, 101, 103, 111, 114, 121] (by decide +kernel)
    have h19 := kw_out s hk [97, 108, 108, 111, 119] (by decide +kernel)
    have h20 := kw_out s hk [97, 117, 100, 105, 116, 97, 108, 108, 111, 119] (by decide +kernel)
    have h21 := kw_out s hk [100, 111, 110, 116, 97, 117, 100, 105, 116] (by decide +kernel)
    have h22 := kw_out s hk [110, 101, 118, 101, 114, 97, 108, 108, 111, 119] (by decide +kernel)
    have h23 := kw_out s hk [116, 121, 112, 101, 95, 116, 114, 97, 110, 115, 105, 116, 105, 111, 110] (by decide +kernel)
    have h24 := kw_out s hk [116, 121, 112, 101, 95, 99, 104, 97, 110, 103, 101] (by decide +kernel)
    have h25 := kw_out s hk [116, 121, 112, 101, 95, 109, 101, 109, 98, 101, 114] (by decide +kernel)
    have h26 := kw_out s hk [114, 97, 110, 103, 101, 95, 116, 114, 97, 110, 115, 105, 116, 105, 111, 110] (by decide +kernel)
    have h27 := kw_out s hk [99, 111, 110, 115, 116, 114, 97, 105, 110] (by decide +kernel)
    have h28 := kw_out s hk [118, 97, 108, 105, 100, 97, 116, 101, 116, 114, 97, 110, 115] (by decide +kernel)
    have h29 := kw_out s hk [105, 102] (by decide +kernel)
    have h30 := kw_out s hk [101, 108, 115, 101] (by decide +kernel)
    have h31 := kw_out s hk [111, 112, 116, 105, 111, 110, 97, 108] (by decide +kernel)
    have h32 := kw_out s hk [114, 101, 113, 117, 105, 114, 101] (by decide +kernel)
    have h33 := kw_out s hk [115, 105, 100] (by decide +kernel)
    have h34 := kw_out s hk [102, 105, 108, 101, 99, 111, 110] (by decide +kernel)
    have h35 := kw_out s hk [112, 101, 114, 109, 105, 115, 115, 105, 118, 101] (by decide +kernel)
    have h36 := kw_out s hk [97, 115, 115, 101, 114, 116] (by decide +kernel)
    have h37 := kw_out s hk [115, 101, 108, 102] (by decide +kernel)
    have h38 := kw_out s hk [105, 110] (by decide +kernel)
    clear hk
    go_enter Tryz.func32, Tryz.ntmps32
    go_wp2_with fail
    go_ret
    exact ⟨rfl, rfl⟩
  · rcases kw_in s hk with h | h | h | h | h | h | h | h | h | h | h | h | h | h | h | h | h | h | h | h | h | h | h | h | h | h | h | h | h | h | h | h | h | h | h | h | h | h | h
    all_goals
      clear hk
      go_enter Tryz.func32, Tryz.ntmps32
      go_wp2_with fail
      go_ret
      exact ⟨rfl, rfl⟩
set_option maxHeartbeats 400000 in
theorem tIdentifier_any (s : ByteArray) (hs : s.size ≤ maxLen) (w : World) : Calls Tryz.prog 31 #[.string s] w fun e w' => e = .returned (.bool (nameB s.data.toList && !kwB s.data.toList)) ∧ w = w' := by
  cases hn : nameB s.data.toList
  all_goals
    go_enter Tryz.func31, Tryz.ntmps31
    go_wp2_with (first | (go_at_call 76; ((with_reducible refine (named_any _ (by assumption) _).mono ?_); rintro e w' ⟨rfl, rfl⟩)) | (go_at_call 32; ((with_reducible refine (tKeyword_any _ _).mono ?_); rintro e w' ⟨rfl, rfl⟩)))
    go_ret
    exact ⟨rfl, rfl⟩
end Go.Proofs.YtkpodagbefnebaaGreatDoor
namespace Go.Proofs.YtkpodagbefnebaaGreatDoor
namespace Am
open Tk
set_option maxRecDepth 100000
def idB (s : ByteArray) : Bool := nameB s.data.toList && !kwB s.data.toList
theorem ident_p (s : ByteArray) : Pure Tryz.prog 31 [.c (sS s)] (.c (sB (idB s))) :=
  Pure.of_calls (vs := [.string s]) Tryz.call31 (.sc rfl) fun hs w => tIdentifier_any s (of_decide_eq_true (hs _ (.head _))) w
section
variable {α : Type} {l : List α} {p : α → Bool} {j : Nat} {x : α}
theorem all_step (hx : l[j]? = some x) (ha : (l.take j).all p = true) (hp : p x = true) : (l.take (j + 1)).all p = true := by
  rw [List.take_add_one, hx, List.all_append, ha]; simp [hp]
theorem all_no (hx : l[j]? = some x) (hp : p x = false) : l.all p = false := by
  rw [Bool.eq_false_iff]; intro h
  have := List.all_eq_true.1 h x (List.mem_of_getElem? hx)
  rw [hp] at this; cases this
theorem all_end (ha : (l.take j).all p = true) (hj : l.length ≤ j) : l.all p = true := by rwa [List.take_of_length_le hj] at ha
end
end Am
namespace Am
set_option maxRecDepth 100000
set_option maxHeartbeats 1000000
def objC (c : UInt8) : Bool := !(decide (c.toNat < 33) || decide (126 < c.toNat) || decide (c.toNat = 47) || decide (c.toNat = 34))
def objB (s : ByteArray) : Bool := s.data.toList.all objC && (decide (s ≠ ⟨#[]⟩) && decide (s.size ≤ 32))
theorem sz_len (s : ByteArray) : s.size = s.data.toList.length := by cases s; simp [ByteArray.size]
theorem sobjName_p (s : ByteArray) : Pure Tryz.prog 254 [.c (sS s)] (.c (sB (objB s))) := by
  refine fn1 (fn := Tryz.f254) Tryz.call254 Tryz.func254 rfl Tryz.ntmps254 Tryz.results254 rfl (by rfl) ?_
  refine AW.fact (t := 0) rfl (fun κ w x hr => repV_s hr) fun hn => ?_
  repeat' (first | (with_reducible first | apply AW.seq | apply AW.block | apply AW.skip | apply AW.ret | apply AW.exit | apply q_then | apply q_thenR | apply q_thenE | apply q_bloN | apply q_bloR | apply q_bloE | apply y_e | refine v_rgl ?_) | ((with_reducible apply i_dv); refine t_v AS.v ?_) | ((with_reducible apply i_dg); refine t_m (hs := fun hg => AS.v) (k := ?_)) | ((with_reducible refine i_aw ?_); ((refine v_cond (fun hc => ?_) (fun hc => ?_); all_goals (try (exfalso; simp [*] at hc; done))))) | ((with_reducible refine i_rt ?_); refine k_b ?_) | fail)
  refine AW.loop (fun n σ => ∃ j, n = s.size - j ∧ j ≤ s.size ∧ (s.data.toList.take j).all objC = true ∧ σ = mk [(0, .c (sS s)), (5, .c (sI s.size)), (6, .c (sI j))] []) s.size ?_ ?_
  · exact ⟨_, wk_mk (by (repeat (first | exact all_nil | ((refine all_cons ⟨_, rfl, .inl rfl, ?_⟩ ?_); (· (rfl))))); done) (by (repeat (exact all_nil)); done) (by rfl), 0, rfl, Nat.zero_le _, rfl, rfl⟩
  rintro n σ ⟨j, rfl, hj, ha, rfl⟩
  by_cases hlt : j < s.size
  · obtain ⟨x, hx⟩ : ∃ x, s.data.toList[j]? = some x := ⟨_, List.getElem?_eq_getElem (by have := sz_len s; omega)⟩
    repeat' (first | (with_reducible first | apply AW.seq | apply AW.block | apply AW.skip | apply AW.ret | apply AW.exit | apply q_then | apply q_thenR | apply q_thenE | apply q_bloN | apply q_bloR | apply q_bloE | apply y_e | refine v_rgl ?_) | ((with_reducible apply i_dv); refine t_v AS.v ?_) | ((with_reducible apply i_dg); refine t_m (hs := fun hg => AS.v) (k := ?_)) | ((with_reducible refine i_aw ?_); ((refine v_cond (fun hc => ?_) (fun hc => ?_); all_goals (try (exfalso; simp [*] at hc; done))))) | ((with_reducible refine i_rt ?_); refine k_b ?_) | fail)
    · have e : objC x = false := by simp only [objC]; simp at hc ⊢; omega
      rw [objB, all_no hx e, Bool.false_and]
    · have e : objC x = true := by simp only [objC]; simp at hc ⊢; omega
      exact ⟨_, _, (show s.size - (j + 1) < s.size - j by omega), wk_mk (by (repeat (first | exact all_nil | ((refine all_cons ⟨_, rfl, .inl rfl, ?_⟩ ?_); (· (rfl))))); done) (by (repeat (exact all_nil)); done) (by rfl), j + 1, rfl, hlt, all_step hx ha e, rfl⟩
  · have e := all_end ha (by have := sz_len s; omega)
    repeat' (first | (with_reducible first | apply AW.seq | apply AW.block | apply AW.skip | apply AW.ret | apply AW.exit | apply q_then | apply q_thenR | apply q_thenE | apply q_bloN | apply q_bloR | apply q_bloE | apply y_e | refine v_rgl ?_) | ((with_reducible apply i_dv); refine t_v AS.v ?_) | ((with_reducible apply i_dg); refine t_m (hs := fun hg => AS.v) (k := ?_)) | ((with_reducible refine i_aw ?_); ((refine v_cond (fun hc => ?_) (fun hc => ?_); all_goals (try (exfalso; simp [*] at hc; done))))) | ((with_reducible refine i_rt ?_); refine k_b ?_) | fail)
    rw [objB, e, Bool.true_and, show decide ((s.size : Int) ≤ 32) = decide (s.size ≤ 32) from decide_eq_decide.2 (by omega)]
    simp
end Am
namespace Am
open Tk
theorem ok_bind {ε α β : Type} (a : α) (f : α → Except ε β) : (Except.ok a >>= f) = f a := rfl
theorem err_bind {ε α β : Type} (e : ε) (f : α → Except ε β) : ((Except.error e : Except ε α) >>= f) = .error e := rfl
abbrev Ix (l : List Tok) := Fin l.length
section
variable {l : List Tok}
def tk (k : Ix l) : Tok := l[k.1]
def nx (k : Ix l) : Ix l := if h : k.1 + 1 < l.length then ⟨k.1 + 1, h⟩ else k
def ixAt (k : Ix l) (m : Nat) : Ix l := if h : m < l.length then ⟨m, h⟩ else k
def fuel (l : List Tok) : Nat := 8 * l.length + 16
def flt (c : Int) (t : Tok) : Fa := ⟨c, t.pos, t.text⟩
def isM (s : ByteArray) (k : Ix l) : Bool := decide ((tk k).kind = 4) && decide ((tk k).text = s)
def isW (s : ByteArray) (k : Ix l) : Bool := decide ((tk k).kind = 1) && decide ((tk k).text = s)
def adv (b : Bool) (k : Ix l) : Ix l := if b then nx k else k
def needP (s : ByteArray) (k : Ix l) : Except Fa (Unit × Ix l) := if isM s k then .ok ((), nx k) else .error (flt 9 (tk k))
def needWP (s : ByteArray) (k : Ix l) : Except Fa (Unit × Ix l) := if isW s k then .ok ((), nx k) else .error (flt 9 (tk k))
def isNm (k : Ix l) : Bool := decide ((tk k).kind = 1) && idB (tk k).text
def nameP (k : Ix l) : Except Fa (ByteArray × Ix l) := if isNm k then .ok ((tk k).text, nx k) else .error (flt 9 (tk k))
def bracedL : Nat → List ByteArray → Ix l → Except Fa (List ByteArray × Ix l)
  | 0, _, k => .error (flt 9 (tk k))
  | n + 1, acc, k => if isM ⟨#[125]⟩ k then .ok (acc, nx k) else nameP k >>= fun x => bracedL n (acc ++ [x.1]) x.2
def bracedP (k : Ix l) : Except Fa (List ByteArray × Ix l) := needP ⟨#[123]⟩ k >>= fun x => nameP x.2 >>= fun y => bracedL (fuel l) [y.1] y.2
def listedL : Nat → List ByteArray → Ix l → Except Fa (List ByteArray × Ix l)
  | 0, _, k => .error (flt 9 (tk k))
  | n + 1, acc, k => if isM ⟨#[44]⟩ k then nameP (nx k) >>= fun x => listedL n (acc ++ [x.1]) x.2 else .ok (acc, k)
def listedP (k : Ix l) : Except Fa (List ByteArray × Ix l) := nameP k >>= fun y => listedL (fuel l) [y.1] y.2
def elemP (self minus : Bool) (n : NS) (k : Ix l) : Except Fa (NS × Ix l) :=
  if isM ⟨#[42]⟩ k then .ok ({ n with all := true }, nx k)
  else if self && isW ⟨#[115, 101, 108, 102]⟩ k then .ok ({ n with self := true }, nx k)
  else if minus && isM ⟨#[45]⟩ k then nameP (nx k) >>= fun x => .ok ({ n with except := n.except ++ [x.1] }, x.2)
  else nameP k >>= fun x => .ok ({ n with names := n.names ++ [x.1] }, x.2)
def setL (self : Bool) : Nat → NS → Ix l → Except Fa (NS × Ix l)
  | 0, _, k => .error (flt 9 (tk k))
  | m + 1, n, k => if isM ⟨#[125]⟩ k then .ok (n, nx k) else elemP self true n k >>= fun x => setL self m x.1 x.2
def ns0 (b : Bool) : NS := ⟨false, b, false, [], []⟩
def setP (self : Bool) (k : Ix l) : Except Fa (NS × Ix l) :=
  if isM ⟨#[123]⟩ (adv (isM ⟨#[126]⟩ k) k) then elemP self true (ns0 (isM ⟨#[126]⟩ k)) (nx (adv (isM ⟨#[126]⟩ k) k)) >>= fun x => setL self (fuel l) x.1 x.2
  else if isM ⟨#[126]⟩ k then nameP (nx k) >>= fun x => .ok (⟨false, true, false, [x.1], []⟩, x.2)
  else elemP self false (ns0 false) k
def spanP1 (k : Ix l) : Except Fa (Sp × Ix l) := nameP k >>= fun x => if isM ⟨#[46]⟩ x.2 then nameP (nx x.2) >>= fun y => .ok (⟨x.1, y.1⟩, y.2) else .ok (⟨x.1, ⟨#[]⟩⟩, x.2)
def levelL : Nat → Lv → Ix l → Except Fa (Lv × Ix l)
  | 0, _, k => .error (flt 9 (tk k))
  | n + 1, v, k => spanP1 k >>= fun x => if isM ⟨#[44]⟩ x.2 then levelL n { v with cats := v.cats ++ [x.1] } (nx x.2) else .ok ({ v with cats := v.cats ++ [x.1] }, x.2)
def levelP (k : Ix l) : Except Fa (Lv × Ix l) := nameP k >>= fun x => if isM ⟨#[58]⟩ x.2 then levelL (fuel l) ⟨x.1, []⟩ (nx x.2) else .ok (⟨x.1, []⟩, x.2)
def rangeP (k : Ix l) : Except Fa (Rg × Ix l) := levelP k >>= fun x => if isM ⟨#[45]⟩ x.2 then levelP (nx x.2) >>= fun y => .ok (⟨x.1, y.1⟩, y.2) else .ok (⟨x.1, Lv.zero⟩, x.2)
def contextP (k : Ix l) : Except Fa (Ct × Ix l) := nameP k >>= fun u => needP ⟨#[58]⟩ u.2 >>= fun a => nameP a.2 >>= fun r => needP ⟨#[58]⟩ r.2 >>= fun b => nameP b.2 >>= fun t => needP ⟨#[58]⟩ t.2 >>= fun c => rangeP c.2 >>= fun g => .ok (⟨u.1, r.1, t.1, g.1⟩, g.2)
def chooseP (ws : List ByteArray) (k : Ix l) : Except Fa (Int × Ix l) := match ws.findIdx? (fun s => isW s k) with | some i => .ok ((i : Int), nx k) | none => .error (flt 9 (tk k))
def inB (ws : List UInt8) (c : UInt8) : Option Nat := ws.findIdx? (fun d => d == c)
def attrO : Option Nat → Option Nat → Option Int
  | some i, some j => some (((j * 5 + i : Nat)) : Int)
  | _, _ => none
def attrN (v : Bool) (s : ByteArray) : Option Int := match s.data.toList with
  | [a, b] => attrO (inB [117, 114, 116, 108, 104] a) (inB (if v then [49, 50, 51] else [49, 50]) b)
  | _ => none
def attrP (v : Bool) (k : Ix l) : Except Fa (Int × Ix l) := match attrN v (tk k).text with
  | some n => if (tk k).kind = 1 then .ok (n, nx k) else .error (flt 9 (tk k))
  | none => .error (flt 9 (tk k))
def relP (k : Ix l) : Except Fa (Int × Ix l) := if isM ⟨#[61, 61]⟩ k then .ok (0, nx k) else if isM ⟨#[33, 61]⟩ k then .ok (1, nx k) else chooseP [⟨#[100, 111, 109]⟩, ⟨#[100, 111, 109, 98, 121]⟩, ⟨#[105, 110, 99, 111, 109, 112]⟩] k >>= fun x => .ok (2 + x.1, x.2)
def cmpP (v : Bool) (k : Ix l) : Except Fa (Ex × Ix l) := attrP v k >>= fun a =>
  if isW ⟨#[105, 110]⟩ a.2 then (if isM ⟨#[123]⟩ (nx a.2) then bracedP (nx a.2) >>= fun x => .ok ({ Ex.zero with op := 9, a := a.1, names := x.1 }, x.2) else nameP (nx a.2) >>= fun x => .ok ({ Ex.zero with op := 9, a := a.1, names := [x.1] }, x.2))
  else relP a.2 >>= fun r => attrP v r.2 >>= fun b => .ok ({ Ex.zero with op := 8, a := a.1, rel := r.1, b := b.1 }, b.2)
mutual
def compP (v : Bool) : Nat → Ix l → Except Fa (Ex × Ix l)
  | 0, k => .error (flt 9 (tk k))
  | n + 1, k => if isM ⟨#[33]⟩ k then compP v n (nx k) >>= fun x => .ok ({ Ex.zero with op := 2, kids := [x.1] }, x.2)
    else if isM ⟨#[40]⟩ k then eithP v n (nx k) >>= fun x => needP ⟨#[41]⟩ x.2 >>= fun y => .ok (x.1, y.2)
    else cmpP v k
def bothP (v : Bool) : Nat → Ix l → Except Fa (Ex × Ix l)
  | 0, k => .error (flt 9 (tk k))
  | n + 1, k => compP v n k >>= fun x => bothL v n x.1 x.2
def bothL (v : Bool) : Nat → Ex → Ix l → Except Fa (Ex × Ix l)
  | 0, _, k => .error (flt 9 (tk k))
  | n + 1, e, k => if isM ⟨#[38, 38]⟩ k then compP v n (nx k) >>= fun x => bothL v n { Ex.zero with op := 3, kids := [e, x.1] } x.2 else .ok (e, k)
def eithP (v : Bool) : Nat → Ix l → Except Fa (Ex × Ix l)
  | 0, k => .error (flt 9 (tk k))
  | n + 1, k => bothP v n k >>= fun x => eithL v n x.1 x.2
def eithL (v : Bool) : Nat → Ex → Ix l → Except Fa (Ex × Ix l)
  | 0, _, k => .error (flt 9 (tk k))
  | n + 1, e, k => if isM ⟨#[124, 124]⟩ k then bothP v n (nx k) >>= fun x => eithL v n { Ex.zero with op := 4, kids := [e, x.1] } x.2 else .ok (e, k)
end
mutual
def levE : Ex → Nat
  | ⟨_, _, _, _, _, _, kids⟩ => levEs kids + 1
def levEs : List Ex → Nat
  | [] => 0
  | x :: l => max (levE x) (levEs l)
end
def constrP (v : Bool) (k : Ix l) : Except Fa (Ex × Ix l) := eithP v (fuel l) k >>= fun x => if 12 < levE x.1 then .error (flt 4 (tk k)) else .ok x
def condP (cnd : List Tok → Except Fa (Ex × Nat)) (k : Ix l) : Except Fa (Ex × Ix l) := cnd (l.drop k.1) >>= fun x => .ok (x.1, ixAt k (k.1 + x.2))
def textP (k : Ix l) : Except Fa (ByteArray × Ix l) := if (tk k).kind = 3 then (if (tk k).text = ⟨#[]⟩ then .error (flt 10 (tk k)) else .ok ((tk k).text, nx k)) else .error (flt 9 (tk k))
def beginW : List ByteArray := [⟨#[99, 108, 97, 115, 115]⟩, ⟨#[116, 121, 112, 101]⟩, ⟨#[97, 116, 116, 114, 105, 98, 117, 116, 101]⟩, ⟨#[116, 121, 112, 101, 97, 116, 116, 114, 105, 98, 117, 116, 101]⟩, ⟨#[114, 111, 108, 101]⟩, ⟨#[114, 111, 108, 101, 97, 108, 108, 111, 119]⟩, ⟨#[114, 111, 108, 101, 95, 116, 114, 97, 110, 115, 105, 116, 105, 111, 110]⟩, ⟨#[117, 115, 101, 114]⟩, ⟨#[98, 111, 111, 108]⟩, ⟨#[115, 101, 110, 115, 105, 116, 105, 118, 105, 116, 121]⟩, ⟨#[99, 97, 116, 101, 103, 111, 114, 121]⟩, ⟨#[97, 108, 108, 111, 119]⟩, ⟨#[97, 117, 100, 105, 116, 97, 108, 108, 111, 119]⟩, ⟨#[100, 111, 110, 116, 97, 117, 100, 105, 116]⟩, ⟨#[110, 101, 118, 101, 114, 97, 108, 108, 111, 119]⟩, ⟨#[116, 121, 112, 101, 95, 116, 114, 97, 110, 115, 105, 116, 105, 111, 110]⟩, ⟨#[116, 121, 112, 101, 95, 99, 104, 97, 110, 103, 101]⟩, ⟨#[116, 121, 112, 101, 95, 109, 101, 109, 98, 101, 114]⟩, ⟨#[114, 97, 110, 103, 101, 95, 116, 114, 97, 110, 115, 105, 116, 105, 111, 110]⟩, ⟨#[99, 111, 110, 115, 116, 114, 97, 105, 110]⟩, ⟨#[118, 97, 108, 105, 100, 97, 116, 101, 116, 114, 97, 110, 115]⟩, ⟨#[105, 102]⟩, ⟨#[111, 112, 116, 105, 111, 110, 97, 108]⟩, ⟨#[114, 101, 113, 117, 105, 114, 101]⟩, ⟨#[115, 105, 100]⟩, ⟨#[102, 105, 108, 101, 99, 111, 110]⟩, ⟨#[112, 101, 114, 109, 105, 115, 115, 105, 118, 101]⟩, ⟨#[97, 115, 115, 101, 114, 116]⟩]
def begB (s : ByteArray) : Bool := beginW.any fun x => decide (s = x)
def declP (w : ByteArray) (s : Stm) (k : Ix l) : Except Fa (Bool × (Stm × Ix l)) :=
  if w = ⟨#[99, 108, 97, 115, 115]⟩ then nameP k >>= fun x => bracedP x.2 >>= fun y => .ok (true, ({ s with kind := 1, name := x.1, list := y.1 }, y.2))
  else if w = ⟨#[116, 121, 112, 101]⟩ then nameP k >>= fun x => if isW ⟨#[97, 108, 105, 97, 115]⟩ x.2 then bracedP (nx x.2) >>= fun y => listedL (fuel l) s.list y.2 >>= fun z => .ok (true, ({ s with kind := 2, name := x.1, aliases := y.1, list := z.1 }, z.2))
    else listedL (fuel l) s.list x.2 >>= fun z => .ok (true, ({ s with kind := 2, name := x.1, list := z.1 }, z.2))
  else if w = ⟨#[97, 116, 116, 114, 105, 98, 117, 116, 101]⟩ then nameP k >>= fun x => .ok (true, ({ s with kind := 3, name := x.1 }, x.2))
  else if w = ⟨#[116, 121, 112, 101, 97, 116, 116, 114, 105, 98, 117, 116, 101]⟩ then nameP k >>= fun x => listedP x.2 >>= fun y => .ok (true, ({ s with kind := 4, name := x.1, list := y.1 }, y.2))
  else if w = ⟨#[114, 111, 108, 101]⟩ then nameP k >>= fun x => if isW ⟨#[116, 121, 112, 101, 115]⟩ x.2 then setP false (nx x.2) >>= fun y => .ok (true, ({ s with kind := 5, name := x.1, source := y.1 }, y.2)) else .ok (true, ({ s with kind := 5, name := x.1 }, x.2))
  else if w = ⟨#[117, 115, 101, 114]⟩ then nameP k >>= fun x => needWP ⟨#[114, 111, 108, 101, 115]⟩ x.2 >>= fun a => bracedP a.2 >>= fun y => needWP ⟨#[108, 101, 118, 101, 108]⟩ y.2 >>= fun b => levelP b.2 >>= fun v => needWP ⟨#[114, 97, 110, 103, 101]⟩ v.2 >>= fun c => rangeP c.2 >>= fun g => .ok (true, ({ s with kind := 8, name := x.1, list := y.1, level := v.1, range := g.1 }, g.2))
  else if w = ⟨#[98, 111, 111, 108]⟩ then nameP k >>= fun x => chooseP [⟨#[102, 97, 108, 115, 101]⟩, ⟨#[116, 114, 117, 101]⟩] x.2 >>= fun y => .ok (true, ({ s with kind := 9, name := x.1, value := decide (y.1 = 1) }, y.2))
  else if w = ⟨#[115, 101, 110, 115, 105, 116, 105, 118, 105, 116, 121]⟩ then nameP k >>= fun x => .ok (true, ({ s with kind := 10, name := x.1 }, x.2))
  else if w = ⟨#[99, 97, 116, 101, 103, 111, 114, 121]⟩ then nameP k >>= fun x => .ok (true, ({ s with kind := 11, name := x.1 }, x.2))
  else .ok (false, (s, k))
def pairP (self : Bool) (s : Stm) (k : Ix l) : Except Fa (Unit × (Stm × Ix l)) := setP false k >>= fun x => setP self x.2 >>= fun y => needP ⟨#[58]⟩ y.2 >>= fun a => setP false a.2 >>= fun z => .ok ((), ({ s with source := x.1, target := y.1, cls := z.1 }, z.2))
def numW (s : ByteArray) (ws : List ByteArray) : Int := match ws.findIdx? (fun x => decide (x = s)) with | some i => (i : Int) + 1 | none => 0
def ruleW : List ByteArray := [⟨#[97, 108, 108, 111, 119]⟩, ⟨#[97, 117, 100, 105, 116, 97, 108, 108, 111, 119]⟩, ⟨#[100, 111, 110, 116, 97, 117, 100, 105, 116]⟩, ⟨#[110, 101, 118, 101, 114, 97, 108, 108, 111, 119]⟩]
def transW : List ByteArray := [⟨#[116, 121, 112, 101, 95, 116, 114, 97, 110, 115, 105, 116, 105, 111, 110]⟩, ⟨#[116, 121, 112, 101, 95, 99, 104, 97, 110, 103, 101]⟩, ⟨#[116, 121, 112, 101, 95, 109, 101, 109, 98, 101, 114]⟩]
def ruleP (w : ByteArray) (s : Stm) (k : Ix l) : Except Fa (Bool × (Stm × Ix l)) :=
  if 0 < numW w ruleW then pairP true { s with kind := 12, op := numW w ruleW } k >>= fun x => setP false x.2.2 >>= fun y => .ok (true, ({ x.2.1 with perms := y.1 }, y.2))
  else if 0 < numW w transW then pairP false { s with kind := 13, op := numW w transW } k >>= fun x => nameP x.2.2 >>= fun y =>
    if numW w transW = 1 ∧ (tk y.2).kind = 3 then (if objB (tk y.2).text then .ok (true, ({ x.2.1 with result := y.1, text := (tk y.2).text }, nx y.2)) else .error (flt 10 (tk y.2)))
    else .ok (true, ({ x.2.1 with result := y.1 }, y.2))
  else if w = ⟨#[114, 97, 110, 103, 101, 95, 116, 114, 97, 110, 115, 105, 116, 105, 111, 110]⟩ then pairP false { s with kind := 14 } k >>= fun x => rangeP x.2.2 >>= fun y => .ok (true, ({ x.2.1 with range := y.1 }, y.2))
  else if w = ⟨#[114, 111, 108, 101, 95, 116, 114, 97, 110, 115, 105, 116, 105, 111, 110]⟩ then pairP false { s with kind := 7 } k >>= fun x => nameP x.2.2 >>= fun y => .ok (true, ({ x.2.1 with result := y.1 }, y.2))
  else if w = ⟨#[114, 111, 108, 101, 97, 108, 108, 111, 119]⟩ then setP false k >>= fun x => setP false x.2 >>= fun y => .ok (true, ({ s with kind := 6, source := x.1, target := y.1 }, y.2))
  else if w = ⟨#[99, 111, 110, 115, 116, 114, 97, 105, 110]⟩ then setP false k >>= fun x => setP false x.2 >>= fun y => constrP false y.2 >>= fun z => .ok (true, ({ s with kind := 15, cls := x.1, perms := y.1, cond := z.1 }, z.2))
  else if w = ⟨#[118, 97, 108, 105, 100, 97, 116, 101, 116, 114, 97, 110, 115]⟩ then setP false k >>= fun x => constrP true x.2 >>= fun z => .ok (true, ({ s with kind := 16, cls := x.1, cond := z.1 }, z.2))
  else .ok (false, (s, k))
def symW : List ByteArray := [⟨#[99, 108, 97, 115, 115]⟩, ⟨#[116, 121, 112, 101]⟩, ⟨#[97, 116, 116, 114, 105, 98, 117, 116, 101]⟩, ⟨#[114, 111, 108, 101]⟩, ⟨#[117, 115, 101, 114]⟩, ⟨#[98, 111, 111, 108]⟩, ⟨#[115, 101, 110, 115, 105, 116, 105, 118, 105, 116, 121]⟩, ⟨#[99, 97, 116, 101, 103, 111, 114, 121]⟩]
def fileW : List ByteArray := [⟨#[97, 110, 121]⟩, ⟨#[114, 101, 103, 117, 108, 97, 114]⟩, ⟨#[100, 105, 114, 101, 99, 116, 111, 114, 121]⟩, ⟨#[108, 105, 110, 107]⟩, ⟨#[115, 111, 99, 107, 101, 116]⟩]
def asrW : List ByteArray := [⟨#[110, 111, 102, 108, 111, 119]⟩, ⟨#[110, 111, 100, 111, 109, 97, 105, 110]⟩, ⟨#[115, 101, 112, 97, 114, 97, 116, 101]⟩]
def otherP (w : ByteArray) (s : Stm) (k : Ix l) : Except Fa (Unit × (Stm × Ix l)) :=
  if w = ⟨#[114, 101, 113, 117, 105, 114, 101]⟩ then chooseP symW k >>= fun x => if x.1 = 0 then nameP x.2 >>= fun y => bracedP y.2 >>= fun z => .ok ((), ({ s with kind := 19, op := 1, name := y.1, list := z.1 }, z.2))
    else listedP x.2 >>= fun y => .ok ((), ({ s with kind := 19, op := 1 + x.1, list := y.1 }, y.2))
  else if w = ⟨#[115, 105, 100]⟩ then nameP k >>= fun x => contextP x.2 >>= fun y => .ok ((), ({ s with kind := 20, name := x.1, ctx := y.1 }, y.2))
  else if w = ⟨#[102, 105, 108, 101, 99, 111, 110]⟩ then textP k >>= fun x => chooseP fileW x.2 >>= fun y => contextP y.2 >>= fun z => .ok ((), ({ s with kind := 21, text := x.1, op := y.1, ctx := z.1 }, z.2))
  else if w = ⟨#[112, 101, 114, 109, 105, 115, 115, 105, 118, 101]⟩ then setP false k >>= fun x => .ok ((), ({ s with kind := 22, source := x.1 }, x.2))
  else if w = ⟨#[97, 115, 115, 101, 114, 116]⟩ then nameP k >>= fun x => chooseP asrW x.2 >>= fun y => setP false y.2 >>= fun z => setP false z.2 >>= fun u => .ok ((), ({ s with kind := 23, name := x.1, op := 1 + y.1, source := z.1, target := u.1 }, u.2))
  else .ok ((), (s, k))
def plainP (w : ByteArray) (s : Stm) (k : Ix l) : Except Fa (Stm × Ix l) :=
  declP w s k >>= fun x => (if x.1 then .ok x.2 else ruleP w x.2.1 x.2.2 >>= fun y => if y.1 then .ok y.2 else otherP w y.2.1 y.2.2 >>= fun z => .ok z.2) >>= fun y => needP ⟨#[59]⟩ y.2 >>= fun z => .ok (y.1, z.2)
mutual
def stmtP (cnd : List Tok → Except Fa (Ex × Nat)) : Nat → Nat → Ix l → Nat → Except Fa (Stm × (Ix l × Nat))
  | 0, _, k, _ => .error (flt 9 (tk k))
  | n + 1, d, k, c =>
    if (tk k).kind = 1 ∧ begB (tk k).text = true then
      if 1024 ≤ c then .error (flt 4 (tk k))
      else if (tk k).text = ⟨#[105, 102]⟩ ∨ (tk k).text = ⟨#[111, 112, 116, 105, 111, 110, 97, 108]⟩ then
        if 12 ≤ d then .error (flt 4 (tk k))
        else blocksP cnd n d (decide ((tk k).text = ⟨#[105, 102]⟩)) { Stm.zero with pos := (tk k).pos } (nx k) (c + 1) >>= fun x => .ok (x.2.1, x.2.2)
      else plainP (tk k).text { Stm.zero with pos := (tk k).pos } (nx k) >>= fun x => .ok (x.1, (x.2, c + 1))
    else .error (flt 9 (tk k))
def blocksP (cnd : List Tok → Except Fa (Ex × Nat)) : Nat → Nat → Bool → Stm → Ix l → Nat → Except Fa (Unit × (Stm × (Ix l × Nat)))
  | 0, _, _, _, k, _ => .error (flt 9 (tk k))
  | n + 1, d, i, s, k, c =>
    (if i then condP cnd k >>= fun x => .ok ({ s with kind := 17, cond := x.1 }, x.2) else .ok ({ s with kind := 18 }, k)) >>= fun y =>
    blockP cnd n d y.2 c >>= fun z => if isW ⟨#[101, 108, 115, 101]⟩ z.2.1 then blockP cnd n d (nx z.2.1) z.2.2 >>= fun u => .ok ((), ({ y.1 with thn := z.1, els := u.1 }, u.2)) else .ok ((), ({ y.1 with thn := z.1 }, z.2))
def blockP (cnd : List Tok → Except Fa (Ex × Nat)) : Nat → Nat → Ix l → Nat → Except Fa (List Stm × (Ix l × Nat))
  | 0, _, k, _ => .error (flt 9 (tk k))
  | n + 1, d, k, c => needP ⟨#[123]⟩ k >>= fun a => if isM ⟨#[125]⟩ a.2 then .error (flt 9 (tk a.2)) else stmtsP cnd n (d + 1) [] a.2 c >>= fun x => needP ⟨#[125]⟩ x.2.1 >>= fun y => .ok (x.1, (y.2, x.2.2))
def stmtsP (cnd : List Tok → Except Fa (Ex × Nat)) : Nat → Nat → List Stm → Ix l → Nat → Except Fa (List Stm × (Ix l × Nat))
  | 0, _, _, k, _ => .error (flt 9 (tk k))
  | n + 1, d, acc, k, c => if (tk k).kind = 0 ∨ (0 < d ∧ isM ⟨#[125]⟩ k = true) then .ok (acc, (k, c)) else stmtP cnd n d k c >>= fun x => stmtsP cnd n d (acc ++ [x.1]) x.2.1 x.2.2
end
def dec9 (s : ByteArray) : Nat := s.data.toList.foldl (fun n c => 10 * n + (c.toNat - 48)) 0
def headP (k : Ix l) : Except Fa (Mo × Ix l) := needWP ⟨#[109, 111, 100, 117, 108, 101]⟩ k >>= fun a => nameP a.2 >>= fun x =>
  if (tk x.2).kind = 2 then (if 9999 < dec9 (tk x.2).text then .error (flt 3 (tk x.2)) else needP ⟨#[59]⟩ (nx x.2) >>= fun y => .ok (⟨x.1, (dec9 (tk x.2).text : Int), []⟩, y.2)) else .error (flt 9 (tk x.2))
structure Fine (l : List Tok) : Prop where
  pos : 0 < l.length
  le : l.length ≤ 4294967296
  en : ∀ k : Ix l, (tk k).kind ≠ 0 → k.1 + 1 < l.length
  nm : ∀ k : Ix l, (tk k).kind = 2 → 0 < (tk k).text.data.toList.length ∧ (tk k).text.data.toList.length ≤ 9 ∧ (tk k).text.data.toList.all dgB = true
theorem nx_val (hf : Fine l) {k : Ix l} (h : (tk k).kind ≠ 0) : ((nx k).1 : Nat) = k.1 + 1 := by unfold nx; rw [dif_pos (hf.en k h)]
theorem nx_le (k : Ix l) : k.1 ≤ (nx k).1 := by unfold nx; split <;> simp
end
end Am
end Go.Proofs.YtkpodagbefnebaaGreatDoor
