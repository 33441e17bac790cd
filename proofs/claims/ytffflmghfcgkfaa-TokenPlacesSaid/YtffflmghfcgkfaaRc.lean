/- The walk of the reference's One. -/
import Derived.Test.YtffflmghfcgkfaaRb
set_option linter.unusedSimpArgs false
set_option linter.unusedVariables false
namespace Go.Proofs.Ytffflmghfcgkfaa
open Go.RowKit Tk

def OneV (x y : Int) (k : Nat) : Res → Value
  | .err c off => .tuple #[.int .i64 x, .int .i64 y, .int .i64 c, .int .i64 ((k + off : Nat) : Int)]
  | .ok kd n => .tuple #[.int .i64 kd, .int .i64 ((k + n : Nat) : Int), .int .i64 0, .int .i64 0]
def markList : List (List UInt8) := [[123], [125], [40], [41], [59], [58], [44], [46], [45], [126], [42], [33], [61, 61], [33, 61], [38, 38], [124, 124], [94]]
def mkB (l : List UInt8) : Bool := markList.contains l
theorem mkB_two (a b : UInt8) : mkB [a, b] = marks2.contains [a, b] := by simp [mkB, markList, marks2]
theorem mkB_one (a : UInt8) : mkB [a] = marks1.contains a := by simp [mkB, markList, marks1]
theorem inWords_mk (l ws : List UInt8) (h : words [] ws = markList) : inWords l ws = mkB l := by
  unfold inWords mkB
  rw [h]
  cases l with
  | nil => decide
  | cons => simp
theorem within_mk (s ws : ByteArray) (hw : ws.size ≤ maxLen) (hws : words [] ws.data.toList = markList) (v : Bool) (hv : mkB s.data.toList = v) (w : World) : Calls Try.prog 38 #[.string s, .string ws] w fun e w' => e = .returned (.bool v) ∧ w = w' :=
  (within_any s ws hw w).mono fun e w' h => ⟨by rw [h.1, inWords_mk _ _ hws, hv], h.2⟩
theorem ext_two (src : ByteArray) (k : Nat) (h : k + 2 ≤ src.size) : mkB (src.extract k (k + 2)).data.toList = marks2.contains ((src.data.toList.drop k).take 2) := by
  rw [← bl, ext_list, show k + 2 - k = 2 by omega]
  have h1 : k < src.data.toList.length := by rw [sz]; omega
  have h2 : k + 1 < src.data.toList.length := by rw [sz]; omega
  rw [List.drop_eq_getElem_cons h1, List.drop_eq_getElem_cons h2]
  exact mkB_two _ _
theorem ext_one (src : ByteArray) (k : Nat) (h : k < src.size) : mkB (src.extract k (k + 1)).data.toList = marks1.contains src[k] := by
  rw [← bl, ext_list, show k + 1 - k = 1 by omega]
  have h1 : k < src.data.toList.length := by rw [sz]; omega
  rw [List.drop_eq_getElem_cons h1, ← at_ src k h]
  exact mkB_one _
theorem markN_2 (l : List UInt8) (h : marks2.contains (l.take 2) = true) : markN l = 2 := by unfold markN; rw [if_pos h]
theorem markN_1 (src : ByteArray) (k : Nat) (h : k < src.size) (h2 : marks2.contains ((src.data.toList.drop k).take 2) = false) (h1 : marks1.contains src[k] = true) : markN (src.data.toList.drop k) = 1 := by
  unfold markN
  rw [if_neg (by rw [h2]; decide)]
  have hk : k < src.data.toList.length := by rw [sz]; omega
  rw [List.drop_eq_getElem_cons hk, at_ src k h]
  exact if_pos h1
theorem markN_0 (src : ByteArray) (k : Nat) (h : k < src.size) (h2 : marks2.contains ((src.data.toList.drop k).take 2) = false) (h1 : marks1.contains src[k] = false) : markN (src.data.toList.drop k) = 0 := by
  unfold markN
  rw [if_neg (by rw [h2]; decide)]
  have hk : k < src.data.toList.length := by rw [sz]; omega
  rw [List.drop_eq_getElem_cons hk, at_ src k h]
  exact if_neg (fun h' => by have h3 : marks1.contains src[k] = true := h'; rw [h1] at h3; cases h3)
theorem marks2_short (src : ByteArray) (k : Nat) (h : ¬ k + 2 ≤ src.size) : marks2.contains ((src.data.toList.drop k).take 2) = false := by
  have hl : ((src.data.toList.drop k).take 2).length ≤ 1 := by rw [List.length_take, List.length_drop, sz]; omega
  generalize (src.data.toList.drop k).take 2 = l at hl
  match l, hl with
  | [], _ => rfl
  | [a], _ => simp [marks2]
theorem oneR_name {src : ByteArray} {k : Nat} (h : k < src.size) (hc : letB (src[k].toNat : Int) = true) : oneR (src.data.toList.drop k) = nameR (src.data.toList.drop k) := by
  unfold oneR; rw [at_drop src k h]; exact if_pos hc
theorem oneR_num {src : ByteArray} {k : Nat} (h : k < src.size) (hc : letB (src[k].toNat : Int) = false) (hd : digB (src[k].toNat : Int) = true) : oneR (src.data.toList.drop k) = numR (src.data.toList.drop k) := by
  unfold oneR; rw [at_drop src k h, if_neg (by unfold bi; rw [hc]; decide)]; exact if_pos hd
theorem oneR_text {src : ByteArray} {k : Nat} (h : k < src.size) (hc : letB (src[k].toNat : Int) = false) (hd : digB (src[k].toNat : Int) = false) (hq : (src[k].toNat : Int) = 34) : oneR (src.data.toList.drop k) = textR (src.data.toList.drop k) := by
  unfold oneR; rw [at_drop src k h, if_neg (by unfold bi; rw [hc]; decide), if_neg (by unfold bi; rw [hd]; decide)]; exact if_pos hq
theorem oneR_mark {src : ByteArray} {k : Nat} (h : k < src.size) (hc : letB (src[k].toNat : Int) = false) (hd : digB (src[k].toNat : Int) = false) (hq : ¬ (src[k].toNat : Int) = 34) : oneR (src.data.toList.drop k) = markR (src.data.toList.drop k) := by
  unfold oneR; rw [at_drop src k h, if_neg (by unfold bi; rw [hc]; decide), if_neg (by unfold bi; rw [hd]; decide)]; exact if_neg hq

def OnePost (src : ByteArray) (k : Nat) (w : World) (e : Ending) (w' : World) : Prop := ∃ x y : Int, e = .returned (OneV x y k (oneR (src.data.toList.drop k))) ∧ w = w'
set_option maxHeartbeats 1000000 in
theorem rOne_name (src : ByteArray) (k : Nat) (w : World) (hs : src.size ≤ 65536) (hk : k < src.size) (hc : letB (src[k].toNat : Int) = true) : Calls Try.prog 37 #[.string src, .int .i64 k] w (OnePost src k w) := by
  have E0 := Lib.hid (oneR_name hk hc)
  have hl := tw_le nmB (src.data.toList.drop k)
  rw [List.length_drop, sz] at hl
  by_cases h : 32 < tw nmB (src.data.toList.drop k)
  · have X : Hid (nameR (src.data.toList.drop k) = _) := if_pos h
    go_enter Try.func37, Try.ntmps37
    go_wp2_with (first | ((with_reducible refine wpTxt_q ?_ ?_ ?_); rfl; rfl; intro _ _) | ((with_reducible refine wpTxt_w0 ?_ ?_ ?_); rfl; rfl; intro _ _) | ((with_reducible refine wpTxt_s ?_ ?_); rfl; intro _ _; go_simp) | ((with_reducible refine wpTxt_sw ?_ ?_); rfl; intro _ _; go_simp) | (with_reducible refine wpTxt_nil ?_) | ((with_reducible refine wp_region_t mixed ?_ ?_); decide +kernel; intro _ _) | (go_at_call 60; ((with_reducible refine (rLetter_any _ _).mono ?_); rintro e w' ⟨rfl, rfl⟩)) | (go_at_call 61; ((with_reducible refine (rend_name src k _ hs hk hc).mono ?_); rintro e w' ⟨rfl, rfl⟩)))
    refine bodyPost_ret (v := .tuple #[.int .i64 0, .int .i64 0, .int .i64 10, .int .i64 k]) (by simp [results, Try.f37, go_sem]) rfl ?_
    refine ⟨0, 0, fin_val ?_ rfl⟩
    rw [E0.out, X.out]; rfl
  · have X : Hid (nameR (src.data.toList.drop k) = _) := if_neg h
    go_enter Try.func37, Try.ntmps37
    go_wp2_with (first | ((with_reducible refine wpTxt_q ?_ ?_ ?_); rfl; rfl; intro _ _) | ((with_reducible refine wpTxt_w0 ?_ ?_ ?_); rfl; rfl; intro _ _) | ((with_reducible refine wpTxt_s ?_ ?_); rfl; intro _ _; go_simp) | ((with_reducible refine wpTxt_sw ?_ ?_); rfl; intro _ _; go_simp) | (with_reducible refine wpTxt_nil ?_) | ((with_reducible refine wp_region_t mixed ?_ ?_); decide +kernel; intro _ _) | (go_at_call 60; ((with_reducible refine (rLetter_any _ _).mono ?_); rintro e w' ⟨rfl, rfl⟩)) | (go_at_call 61; ((with_reducible refine (rend_name src k _ hs hk hc).mono ?_); rintro e w' ⟨rfl, rfl⟩)))
    refine bodyPost_ret (v := .tuple #[.int .i64 1, .int .i64 ((k + tw nmB (src.data.toList.drop k) : Nat) : Int), .int .i64 0, .int .i64 0]) (by simp [results, Try.f37, go_sem]) rfl ?_
    refine ⟨0, 0, fin_val ?_ rfl⟩
    rw [E0.out, X.out]; rfl

theorem tw_all (p : UInt8 → Bool) (l : List UInt8) : (l.take (tw p l)).all p = true := by
  induction l with
  | nil => rfl
  | cons c l ih =>
    rw [tw_cons]
    by_cases h : p c = true
    · rw [if_pos h, List.take_succ_cons, List.all_cons, h, ih]; rfl
    · rw [if_neg h]; rfl
theorem numB_ext (src : ByteArray) (k : Nat) (hk : k < src.size) (hd : digB (src[k].toNat : Int) = true) (h9 : ¬ 9 < tw dgB (src.data.toList.drop k)) :
    numB (src.extract k (k + tw dgB (src.data.toList.drop k))).data.toList = !(decide (1 < tw dgB (src.data.toList.drop k)) && decide ((src[k].toNat : Int) = 48)) := by
  rw [← bl, ext_list, show k + tw dgB (src.data.toList.drop k) - k = tw dgB (src.data.toList.drop k) by omega]
  have h0 := tw_pos dgB (src.data.toList.drop k) (by rw [List.length_drop, sz]; omega) (by rw [at_drop src k hk]; exact hd)
  have h1 := tw_le dgB (src.data.toList.drop k)
  have h2 := tw_all dgB (src.data.toList.drop k)
  have h3 := at_drop src k hk
  revert h0 h1 h2 h3 h9
  generalize src.data.toList.drop k = l
  generalize tw dgB l = T
  intro h9 h0 h1 h2 h3
  have e1 : (l.take T).length = T := by rw [List.length_take]; omega
  have e2 : (l.take T).isEmpty = false := by rw [List.isEmpty_eq_false_iff_exists_mem]; exact ⟨_, List.getElem_mem (n := 0) (by omega)⟩
  have e3 : (l.take T).getD 0 0 = src[k] := by
    rw [← h3]
    cases l with
    | nil => simp at h1; omega
    | cons c l => cases T with
      | zero => omega
      | succ T => rfl
  unfold numB
  rw [e1, e2, e3, h2]
  simp only [bi]
  by_cases hx : (src[k].toNat : Int) = 48 <;> by_cases hy : 1 < T <;> simp [hx, hy] <;> omega

set_option maxHeartbeats 1000000 in
theorem rOne_num (src : ByteArray) (k : Nat) (w : World) (hs : src.size ≤ 65536) (hk : k < src.size) (hc : letB (src[k].toNat : Int) = false) (hd : digB (src[k].toNat : Int) = true) : Calls Try.prog 37 #[.string src, .int .i64 k] w (OnePost src k w) := by
  have E0 := Lib.hid (oneR_num hk hc hd)
  have hl := tw_le dgB (src.data.toList.drop k)
  rw [List.length_drop, sz] at hl
  by_cases h : 9 < tw dgB (src.data.toList.drop k)
  · have X : Hid (numR (src.data.toList.drop k) = _) := if_pos h
    go_enter Try.func37, Try.ntmps37
    go_wp2_with (first | ((with_reducible refine wpTxt_q ?_ ?_ ?_); rfl; rfl; intro _ _) | ((with_reducible refine wpTxt_w0 ?_ ?_ ?_); rfl; rfl; intro _ _) | ((with_reducible refine wpTxt_s ?_ ?_); rfl; intro _ _; go_simp) | ((with_reducible refine wpTxt_sw ?_ ?_); rfl; intro _ _; go_simp) | (with_reducible refine wpTxt_nil ?_) | ((with_reducible refine wp_region_t mixed ?_ ?_); decide +kernel; intro _ _) | (go_at_call 60; ((with_reducible refine (rLetter_any _ _).mono ?_); rintro e w' ⟨rfl, rfl⟩)) | (go_at_call 62; ((with_reducible refine (rDigit_any _ _).mono ?_); rintro e w' ⟨rfl, rfl⟩)) | (go_at_call 61; ((with_reducible refine (rend_digit src k _ hs hk hc).mono ?_); rintro e w' ⟨rfl, rfl⟩)))
    refine bodyPost_ret (v := .tuple #[.int .i64 0, .int .i64 0, .int .i64 3, .int .i64 k]) (by simp [results, Try.f37, go_sem]) rfl ?_
    refine ⟨0, 0, fin_val ?_ rfl⟩
    rw [E0.out, X.out]; rfl
  · have HN0 := numB_ext src k hk hd h
    by_cases hz : 1 < tw dgB (src.data.toList.drop k) ∧ (src[k].toNat : Int) = 48
    · have X : Hid (numR (src.data.toList.drop k) = _) := (if_neg h).trans (if_pos (by rw [at_drop src k hk]; exact hz))
      rw [decide_eq_true hz.1, decide_eq_true hz.2] at HN0
      have HN := Lib.hid HN0
      clear HN0 hz
      go_enter Try.func37, Try.ntmps37
      go_wp2_with (first | ((with_reducible refine wpTxt_q ?_ ?_ ?_); rfl; rfl; intro _ _) | ((with_reducible refine wpTxt_w0 ?_ ?_ ?_); rfl; rfl; intro _ _) | ((with_reducible refine wpTxt_s ?_ ?_); rfl; intro _ _; go_simp) | ((with_reducible refine wpTxt_sw ?_ ?_); rfl; intro _ _; go_simp) | (with_reducible refine wpTxt_nil ?_) | ((with_reducible refine wp_region_t mixed ?_ ?_); decide +kernel; intro _ _) | (go_at_call 60; ((with_reducible refine (rLetter_any _ _).mono ?_); rintro e w' ⟨rfl, rfl⟩)) | (go_at_call 62; ((with_reducible refine (rDigit_any _ _).mono ?_); rintro e w' ⟨rfl, rfl⟩)) | (go_at_call 61; ((with_reducible refine (rend_digit src k _ hs hk hc).mono ?_); rintro e w' ⟨rfl, rfl⟩)) | (go_at_call 44; ((with_reducible refine (rnumber_any (src.extract k (k + tw dgB (src.data.toList.drop k))) ?_ _).mono ?_); (· rw [ByteArray.size_extract]; unfold maxLen; omega); rintro e w' ⟨rfl, rfl⟩; rw [HN.out])))
      refine bodyPost_ret (v := .tuple #[.int .i64 0, .int .i64 0, .int .i64 9, .int .i64 k]) (by simp [results, Try.f37, go_sem]) rfl ?_
      refine ⟨0, 0, fin_val ?_ rfl⟩
      rw [E0.out, X.out]; rfl
    · have X : Hid (numR (src.data.toList.drop k) = _) := (if_neg h).trans (if_neg (by rw [at_drop src k hk]; exact hz))
      have hz2 : (decide (1 < tw dgB (src.data.toList.drop k)) && decide ((src[k].toNat : Int) = 48)) = false := by
        rw [← Bool.decide_and]; exact decide_eq_false hz
      rw [hz2] at HN0
      have HN := Lib.hid HN0
      clear HN0 hz hz2
      go_enter Try.func37, Try.ntmps37
      go_wp2_with (first | ((with_reducible refine wpTxt_q ?_ ?_ ?_); rfl; rfl; intro _ _) | ((with_reducible refine wpTxt_w0 ?_ ?_ ?_); rfl; rfl; intro _ _) | ((with_reducible refine wpTxt_s ?_ ?_); rfl; intro _ _; go_simp) | ((with_reducible refine wpTxt_sw ?_ ?_); rfl; intro _ _; go_simp) | (with_reducible refine wpTxt_nil ?_) | ((with_reducible refine wp_region_t mixed ?_ ?_); decide +kernel; intro _ _) | (go_at_call 60; ((with_reducible refine (rLetter_any _ _).mono ?_); rintro e w' ⟨rfl, rfl⟩)) | (go_at_call 62; ((with_reducible refine (rDigit_any _ _).mono ?_); rintro e w' ⟨rfl, rfl⟩)) | (go_at_call 61; ((with_reducible refine (rend_digit src k _ hs hk hc).mono ?_); rintro e w' ⟨rfl, rfl⟩)) | (go_at_call 44; ((with_reducible refine (rnumber_any (src.extract k (k + tw dgB (src.data.toList.drop k))) ?_ _).mono ?_); (· rw [ByteArray.size_extract]; unfold maxLen; omega); rintro e w' ⟨rfl, rfl⟩; rw [HN.out])))
      refine bodyPost_ret (v := .tuple #[.int .i64 2, .int .i64 ((k + tw dgB (src.data.toList.drop k) : Nat) : Int), .int .i64 0, .int .i64 0]) (by simp [results, Try.f37, go_sem]) rfl ?_
      refine ⟨0, 0, fin_val ?_ rfl⟩
      rw [E0.out, X.out]; rfl

set_option maxHeartbeats 1000000 in
theorem rOne_text (src : ByteArray) (k : Nat) (w : World) (hs : src.size ≤ 65536) (hk : k < src.size) (hc : letB (src[k].toNat : Int) = false) (hd : digB (src[k].toNat : Int) = false) (hq : ((src[k].toNat : Int) == 34) = true) : Calls Try.prog 37 #[.string src, .int .i64 k] w (OnePost src k w) := by
  have E0 := Lib.hid (oneR_text hk hc hd (by simpa using hq))
  cases ht : textR (src.data.toList.drop k) with
  | err c off =>
    have HT : Hid (TextV k (textR (src.data.toList.drop k)) = .tuple #[.int .i64 0, .int .i64 c, .int .i64 ((k + off : Nat) : Int)]) := by rw [ht]; rfl
    have X := Lib.hid ht
    clear ht
    go_enter Try.func37, Try.ntmps37
    go_wp2_with (first | ((with_reducible refine wpTxt_q ?_ ?_ ?_); rfl; rfl; intro _ _) | ((with_reducible refine wpTxt_w0 ?_ ?_ ?_); rfl; rfl; intro _ _) | ((with_reducible refine wpTxt_s ?_ ?_); rfl; intro _ _; go_simp) | ((with_reducible refine wpTxt_sw ?_ ?_); rfl; intro _ _; go_simp) | (with_reducible refine wpTxt_nil ?_) | ((with_reducible refine wp_region_t mixed ?_ ?_); decide +kernel; intro _ _) | (go_at_call 60; ((with_reducible refine (rLetter_any _ _).mono ?_); rintro e w' ⟨rfl, rfl⟩)) | (go_at_call 62; ((with_reducible refine (rDigit_any _ _).mono ?_); rintro e w' ⟨rfl, rfl⟩)) | (go_at_call 63; ((with_reducible refine (rtext_any src k _ hs hk).mono ?_); rintro e w' ⟨rfl, rfl⟩; rw [HT.out])))
    refine bodyPost_ret (v := .tuple #[.int .i64 3, .int .i64 0, .int .i64 c, .int .i64 ((k + off : Nat) : Int)]) (by simp [results, Try.f37, go_sem]) rfl ?_
    refine ⟨3, 0, fin_val ?_ rfl⟩
    rw [E0.out, X.out]; rfl
  | ok kd n =>
    have h3 : kd = 3 := by
      unfold textR at ht
      split at ht
      · cases ht
      · split at ht
        · cases ht
        · split at ht
          · cases ht
          · injection ht with h1 h2; exact h1.symm
    subst h3
    have HT : Hid (TextV k (textR (src.data.toList.drop k)) = .tuple #[.int .i64 ((k + n : Nat) : Int), .int .i64 0, .int .i64 0]) := by rw [ht]; rfl
    have X := Lib.hid ht
    clear ht
    go_enter Try.func37, Try.ntmps37
    go_wp2_with (first | ((with_reducible refine wpTxt_q ?_ ?_ ?_); rfl; rfl; intro _ _) | ((with_reducible refine wpTxt_w0 ?_ ?_ ?_); rfl; rfl; intro _ _) | ((with_reducible refine wpTxt_s ?_ ?_); rfl; intro _ _; go_simp) | ((with_reducible refine wpTxt_sw ?_ ?_); rfl; intro _ _; go_simp) | (with_reducible refine wpTxt_nil ?_) | ((with_reducible refine wp_region_t mixed ?_ ?_); decide +kernel; intro _ _) | (go_at_call 60; ((with_reducible refine (rLetter_any _ _).mono ?_); rintro e w' ⟨rfl, rfl⟩)) | (go_at_call 62; ((with_reducible refine (rDigit_any _ _).mono ?_); rintro e w' ⟨rfl, rfl⟩)) | (go_at_call 63; ((with_reducible refine (rtext_any src k _ hs hk).mono ?_); rintro e w' ⟨rfl, rfl⟩; rw [HT.out])))
    refine bodyPost_ret (v := .tuple #[.int .i64 3, .int .i64 ((k + n : Nat) : Int), .int .i64 0, .int .i64 0]) (by simp [results, Try.f37, go_sem]) rfl ?_
    refine ⟨0, 0, fin_val ?_ rfl⟩
    rw [E0.out, X.out]; rfl

def MkRel (src : ByteArray) (k : Nat) (hk : k < src.size) (n : Nat) : Prop := (n < 2 → marks2.contains ((src.data.toList.drop k).take 2) = false) ∧ (n < 1 → marks1.contains src[k] = false)
set_option maxHeartbeats 1000000 in
theorem rOne_mark (src : ByteArray) (k : Nat) (w : World) (hs : src.size ≤ 65536) (hk : k < src.size) (hc : letB (src[k].toNat : Int) = false) (hd : digB (src[k].toNat : Int) = false) (hq : ((src[k].toNat : Int) == 34) = false) : Calls Try.prog 37 #[.string src, .int .i64 k] w (OnePost src k w) := by
  have E0 := Lib.hid (oneR_mark hk hc hd (by simpa using hq))
  go_enter Try.func37, Try.ntmps37
  go_wp2_with (first | ((with_reducible refine wpTxt_q ?_ ?_ ?_); rfl; rfl; intro _ _) | ((with_reducible refine wpTxt_w0 ?_ ?_ ?_); rfl; rfl; intro _ _) | ((with_reducible refine wpTxt_s ?_ ?_); rfl; intro _ _; go_simp) | ((with_reducible refine wpTxt_sw ?_ ?_); rfl; intro _ _; go_simp) | (with_reducible refine wpTxt_nil ?_) | ((with_reducible refine wp_region_t mixed ?_ ?_); decide +kernel; intro _ _) | (go_at_call 60; ((with_reducible refine (rLetter_any _ _).mono ?_); rintro e w' ⟨rfl, rfl⟩)) | (go_at_call 62; ((with_reducible refine (rDigit_any _ _).mono ?_); rintro e w' ⟨rfl, rfl⟩)))
  go_loop [14] (fun i => ∃ n : Nat, n ≤ 2 ∧ i = .int .i64 n ∧ MkRel src k hk n) (fun i => (intOf i).toNat)
  case atStart => exact ⟨2, by omega, rfl, by constructor <;> intro h <;> omega⟩
  case round =>
    obtain ⟨n, hn, rfl, hT⟩ := hrel
    obtain rfl | rfl | rfl : n = 2 ∨ n = 1 ∨ n = 0 := by omega
    · by_cases h2 : k + 2 ≤ src.size
      · have HV0 := ext_two src k h2
        cases hm : marks2.contains ((src.data.toList.drop k).take 2)
        · rw [hm] at HV0
          have HV := Lib.hid HV0
          have X := Lib.hid hm
          clear HV0 hm
          go_wp2_with (first | ((with_reducible refine wpTxt_q ?_ ?_ ?_); rfl; rfl; intro _ _) | ((with_reducible refine wpTxt_w0 ?_ ?_ ?_); rfl; rfl; intro _ _) | ((with_reducible refine wpTxt_s ?_ ?_); rfl; intro _ _; go_simp) | ((with_reducible refine wpTxt_sw ?_ ?_); rfl; intro _ _; go_simp) | (with_reducible refine wpTxt_nil ?_) | ((with_reducible refine wp_region_t mixed ?_ ?_); decide +kernel; intro _ _) | (go_at_call 38; ((with_reducible refine (within_mk _ _ ?_ ?_ _ HV.out _).mono ?_); (· decide +kernel); (· decide +kernel); rintro e w' ⟨rfl, rfl⟩)))
          refine ⟨⟨1, by omega, rfl, fun _ => X.out, fun h => by omega⟩, by simp [intOf]⟩
        · rw [hm] at HV0
          have HV := Lib.hid HV0
          have X := Lib.hid (markN_2 _ hm)
          clear HV0 hm
          go_wp2_with (first | ((with_reducible refine wpTxt_q ?_ ?_ ?_); rfl; rfl; intro _ _) | ((with_reducible refine wpTxt_w0 ?_ ?_ ?_); rfl; rfl; intro _ _) | ((with_reducible refine wpTxt_s ?_ ?_); rfl; intro _ _; go_simp) | ((with_reducible refine wpTxt_sw ?_ ?_); rfl; intro _ _; go_simp) | (with_reducible refine wpTxt_nil ?_) | ((with_reducible refine wp_region_t mixed ?_ ?_); decide +kernel; intro _ _) | (go_at_call 38; ((with_reducible refine (within_mk _ _ ?_ ?_ _ HV.out _).mono ?_); (· decide +kernel); (· decide +kernel); rintro e w' ⟨rfl, rfl⟩)))
          refine bodyPost_ret (v := .tuple #[.int .i64 4, .int .i64 ((k : Int) + 2), .int .i64 0, .int .i64 0]) (by simp [results, Try.f37, go_sem]) rfl ?_
          refine ⟨0, 0, fin_val ?_ rfl⟩
          rw [E0.out, markR, X.out]; rfl
      · have X := Lib.hid (marks2_short src k h2)
        go_wp2_with (first | ((with_reducible refine wpTxt_q ?_ ?_ ?_); rfl; rfl; intro _ _) | ((with_reducible refine wpTxt_w0 ?_ ?_ ?_); rfl; rfl; intro _ _) | ((with_reducible refine wpTxt_s ?_ ?_); rfl; intro _ _; go_simp) | ((with_reducible refine wpTxt_sw ?_ ?_); rfl; intro _ _; go_simp) | (with_reducible refine wpTxt_nil ?_) | ((with_reducible refine wp_region_t mixed ?_ ?_); decide +kernel; intro _ _) | (go_at_call 38; ((with_reducible refine (within_mk _ _ ?_ ?_ _ HV.out _).mono ?_); (· decide +kernel); (· decide +kernel); rintro e w' ⟨rfl, rfl⟩)))
        refine ⟨⟨1, by omega, rfl, fun _ => X.out, fun h => by omega⟩, by simp [intOf]⟩
    · have h2 : k + 1 ≤ src.size := by omega
      have HV0 := ext_one src k hk
      cases hm : marks1.contains src[k]
      · rw [hm] at HV0
        have HV := Lib.hid HV0
        have X := Lib.hid hm
        clear HV0 hm
        go_wp2_with (first | ((with_reducible refine wpTxt_q ?_ ?_ ?_); rfl; rfl; intro _ _) | ((with_reducible refine wpTxt_w0 ?_ ?_ ?_); rfl; rfl; intro _ _) | ((with_reducible refine wpTxt_s ?_ ?_); rfl; intro _ _; go_simp) | ((with_reducible refine wpTxt_sw ?_ ?_); rfl; intro _ _; go_simp) | (with_reducible refine wpTxt_nil ?_) | ((with_reducible refine wp_region_t mixed ?_ ?_); decide +kernel; intro _ _) | (go_at_call 38; ((with_reducible refine (within_mk _ _ ?_ ?_ _ HV.out _).mono ?_); (· decide +kernel); (· decide +kernel); rintro e w' ⟨rfl, rfl⟩)))
        refine ⟨⟨0, by omega, rfl, fun _ => hT.1 (by omega), fun h => X.out⟩, by simp [intOf]⟩
      · rw [hm] at HV0
        have HV := Lib.hid HV0
        have X := Lib.hid (markN_1 src k hk (hT.1 (by omega)) hm)
        clear HV0 hm
        go_wp2_with (first | ((with_reducible refine wpTxt_q ?_ ?_ ?_); rfl; rfl; intro _ _) | ((with_reducible refine wpTxt_w0 ?_ ?_ ?_); rfl; rfl; intro _ _) | ((with_reducible refine wpTxt_s ?_ ?_); rfl; intro _ _; go_simp) | ((with_reducible refine wpTxt_sw ?_ ?_); rfl; intro _ _; go_simp) | (with_reducible refine wpTxt_nil ?_) | ((with_reducible refine wp_region_t mixed ?_ ?_); decide +kernel; intro _ _) | (go_at_call 38; ((with_reducible refine (within_mk _ _ ?_ ?_ _ HV.out _).mono ?_); (· decide +kernel); (· decide +kernel); rintro e w' ⟨rfl, rfl⟩)))
        refine bodyPost_ret (v := .tuple #[.int .i64 4, .int .i64 ((k : Int) + 1), .int .i64 0, .int .i64 0]) (by simp [results, Try.f37, go_sem]) rfl ?_
        refine ⟨0, 0, fin_val ?_ rfl⟩
        rw [E0.out, markR, X.out]; rfl
    · have X := Lib.hid (markN_0 src k hk (hT.1 (by omega)) (hT.2 (by omega)))
      go_wp2_with (first | ((with_reducible refine wpTxt_q ?_ ?_ ?_); rfl; rfl; intro _ _) | ((with_reducible refine wpTxt_w0 ?_ ?_ ?_); rfl; rfl; intro _ _) | ((with_reducible refine wpTxt_s ?_ ?_); rfl; intro _ _; go_simp) | ((with_reducible refine wpTxt_sw ?_ ?_); rfl; intro _ _; go_simp) | (with_reducible refine wpTxt_nil ?_) | ((with_reducible refine wp_region_t mixed ?_ ?_); decide +kernel; intro _ _) | (go_at_call 38; ((with_reducible refine (within_mk _ _ ?_ ?_ _ HV.out _).mono ?_); (· decide +kernel); (· decide +kernel); rintro e w' ⟨rfl, rfl⟩)))
      refine bodyPost_ret (v := .tuple #[.int .i64 0, .int .i64 0, .int .i64 9, .int .i64 k]) (by simp [results, Try.f37, go_sem]) rfl ?_
      refine ⟨0, 0, fin_val ?_ rfl⟩
      rw [E0.out, markR, X.out]; rfl

theorem rOne_any (src : ByteArray) (k : Nat) (w : World) (hs : src.size ≤ 65536) (hk : k < src.size) : Calls Try.prog 37 #[.string src, .int .i64 k] w (OnePost src k w) := by
  cases hc : letB (src[k].toNat : Int)
  · cases hd : digB (src[k].toNat : Int)
    · cases hq : ((src[k].toNat : Int) == 34)
      · exact rOne_mark src k w hs hk hc hd hq
      · exact rOne_text src k w hs hk hc hd hq
    · exact rOne_num src k w hs hk hc hd
  · exact rOne_name src k w hs hk hc
end Go.Proofs.Ytffflmghfcgkfaa
